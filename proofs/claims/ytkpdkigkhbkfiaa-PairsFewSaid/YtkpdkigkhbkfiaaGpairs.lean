/- The functions pairs.Check, pairs.both, pairs.Part, pairs.Tree, pairs.On, told as plain functions, and that the code does as they say. -/
import Derived.Test.YtkpdkigkhbkfiaaTys
import Derived.Test.YtkpdkigkhbkfiaaDat
import Derived.Test.YtkpdkigkhbkfiaaGcut
import Derived.Test.YtkpdkigkhbkfiaaGgraph
namespace Go.Proofs.Ytkpdkigkhbkfiaa
open Go Go.Proofs.Ytkpdkigkhbkfiaa.Sx
set_option linter.unusedVariables false
set_option linter.unusedSimpArgs false
def pairs_Check_F (g : Graph) : Option (Int) :=
 (graph_Check_F g).bind fun r2 =>
 if r2 ≠ 0 then
  some r2
 else
  if 30 < ((g.as.length : Nat) : Int) then
   some 2
  else
   some 0
def pairs_Check_P (out : Int) (d : D) (H : List HL) : Prop := d = .v (.int .i64 out) ∧ H = []
theorem pairs_Check_I (out : Int) : IndepP (pairs_Check_P out) := IndepP.of (by rintro _ _ ⟨rfl, rfl⟩; exact ⟨inferInstance, inferInstance⟩)
set_option maxRecDepth 100000 in
set_option maxHeartbeats 4000000 in
theorem pairs_Check_spec (g : Graph) {out : Int} (H : pairs_Check_F g = some out) : Does Try.prog 40 [.ag 2 (nth [.v (.int .i64 g.n), slD g.as])] [] (pairs_Check_P out) := by
 unfold pairs_Check_F at H
 refine Does.intro Try.func40 rfl Try.ntmps40 rfl fun w0 I0 => ?_
 refine GoC.seq ?_
 refine GoC.region ?_
 refine GoO.effB (ef_boxAg rfl rfl) (fun β1 => ?_)
 refine GoO.pure (ps_assign rfl rfl) ?_
 refine GoO.nil ?_
 refine GoK.code ?_
 refine GoC.seq ?_
 refine GoC.seq ?_
 refine GoC.region ?_
 refine GoO.pure (ps_loadAg rfl At.p0 At.p0 Nat.zero_lt_one rfl rfl) ?_
 have hb := bind_l H; clear H
 obtain ⟨r2, e3, H⟩ := hb
 refine GoO.effC (ef_call rfl (Take.nil _) (Take.nil _) (graph_Check_spec g e3) (LendL.cons (Lend.agA ⟨⟨trivial, Lend.refl _ _⟩, Lend.refl _ _⟩) (LendL.nil)) rfl (graph_Check_I (r2))) (fun rr HH hp => ?_)
 obtain ⟨rfl, rfl⟩ := hp
 refine GoO.pure (ps_assign rfl rfl) ?_
 refine GoO.nil ?_
 refine GoK.code ?_
 refine GoC.seq ?_
 refine GoC.region ?_
 refine GoO.pure (ps_move rfl rfl) ?_
 refine GoO.pure (ps_neq rfl rfl rfl) ?_
 refine GoO.nil ?_
 refine GoK.code ?_
 refine GoC.condD rfl (fun h4 => ?_) (fun h4 => ?_)
 replace H := ite_t h4 H
 refine GoC.seq ?_
 refine GoC.region ?_
 refine GoO.pure (ps_move rfl rfl) ?_
 refine GoO.pure (ps_assign rfl rfl) ?_
 refine GoO.nil ?_
 refine GoK.code ?_
 obtain rfl := Option.some.inj H
 exact GoC.retL (ds := [.v (.int .i64 r2)]) Try.results40 (ResL.cons (ResD.tmp rfl) (ResL.nil)) (Take.nil _) ⟨rfl, rfl⟩
 replace H := ite_f h4 H
 refine GoC.skip ?_
 refine GoK.code ?_
 refine GoC.seq ?_
 refine GoC.seq ?_
 refine GoC.region ?_
 refine GoO.pure (ps_fieldAddr rfl rfl) ?_
 refine GoO.pure (ps_load rfl At.p0 At.p0 Nat.zero_lt_one rfl rfl) ?_
 refine GoO.pure (ps_len rfl (by constructor) rfl) ?_
 refine GoO.lenLe (n := g.as.length) (x := .tmp 10) rfl (by constructor) sl_lenLe (fun ml5 => ?_)
 refine GoO.pure (ps_gtr rfl rfl rfl) ?_
 refine GoO.nil ?_
 refine GoK.code ?_
 refine GoC.condD rfl (fun h6 => ?_) (fun h6 => ?_)
 replace H := ite_t h6 H
 refine GoC.seq ?_
 refine GoC.region ?_
 refine GoO.pure (ps_assign rfl rfl) ?_
 refine GoO.nil ?_
 refine GoK.code ?_
 obtain rfl := Option.some.inj H
 exact GoC.retL (ds := [.v (.int .i64 2)]) Try.results40 (ResL.cons (ResD.tmp rfl) (ResL.nil)) (Take.nil _) ⟨rfl, rfl⟩
 replace H := ite_f h6 H
 refine GoC.skip ?_
 refine GoK.code ?_
 refine GoC.seq ?_
 refine GoC.region ?_
 refine GoO.pure (ps_assign rfl rfl) ?_
 refine GoO.nil ?_
 refine GoK.code ?_
 obtain rfl := Option.some.inj H
 exact GoC.retL (ds := [.v (.int .i64 0)]) Try.results40 (ResL.cons (ResD.tmp rfl) (ResL.nil)) (Take.nil _) ⟨rfl, rfl⟩

def pairs_both_B1 (g : Graph) (t : Int) : Nat → (List Arc) → Option ((List Arc)) := fun k11 l6 =>
 ck (l6.length + 2 ≤ 5864062014805) <|
 some (l6 ++ ([(g.as.getD k11 El.d), (⟨(g.as.getD k11 El.d).t, (g.as.getD k11 El.d).f, (g.as.getD k11 El.d).c⟩ : Arc)] : List Arc))
def pairs_both_F (g : Graph) (s : Int) (t : Int) : Option (Net) :=
 (forN (pairs_both_B1 g t) g.as.length 0 []).bind fun l10 =>
 some (⟨g.n, s, t, l10⟩ : Net)
def pairs_both_P (out : Net) (d : D) (H : List HL) : Prop := ∃ β1 : BK, d = .ag 4 (nth [.v (.int .i64 out.n), .v (.int .i64 out.s), .v (.int .i64 out.t), .own β1 3 0 out.as.length]) ∧ H = [.one β1 32 3 (row out.as)]
theorem pairs_both_I (out : Net) : IndepP (pairs_both_P out) := IndepP.of (by rintro _ _ ⟨β1, rfl, rfl⟩; exact ⟨inferInstance, inferInstance⟩)
set_option maxRecDepth 100000 in
set_option maxHeartbeats 4000000 in
theorem pairs_both_spec (g : Graph) (s : Int) (t : Int) {out : Net} (H : pairs_both_F g s t = some out) : Does Try.prog 42 [.ag 2 (nth [.v (.int .i64 g.n), slD g.as]), .v (.int .i64 s), .v (.int .i64 t)] [] (pairs_both_P out) := by
 unfold pairs_both_F at H
 refine Does.intro Try.func42 rfl Try.ntmps42 rfl fun w0 I0 => ?_
 refine GoC.seq ?_
 refine GoC.region ?_
 refine GoO.effB (ef_boxAg rfl rfl) (fun β1 => ?_)
 refine GoO.effB (ef_alloc rfl) (fun β2 => ?_)
 refine GoO.nil ?_
 refine GoK.code ?_
 refine GoC.seq ?_
 refine GoC.region ?_
 refine GoO.pure (ps_fieldAddr rfl rfl) ?_
 refine GoO.pure (ps_load rfl At.p1 At.p1 Nat.zero_lt_one rfl rfl) ?_
 refine GoO.pure (ps_move rfl rfl) ?_
 refine GoO.pure (ps_move rfl rfl) ?_
 refine GoO.pure (ps_build (Parts.cons _ _ _ _ _ _ _ _ FdP.of (Part.one _ rfl rfl) rfl rfl (Parts.cons _ _ _ _ _ _ _ _ FdP.of (Part.one _ rfl rfl) rfl rfl (Parts.cons _ _ _ _ _ _ _ _ FdP.of (Part.one _ rfl rfl) rfl rfl (Parts.nil _)))) rfl) ?_
 refine GoO.effB (ef_alloc rfl) (fun β3 => ?_)
 refine GoO.eff1 (ef_storeAg rfl rfl At.p0 upd_whole Nat.zero_lt_one rfl) ?_
 refine GoO.nil ?_
 refine GoK.code ?_
 refine GoC.seq ?_
 refine GoC.seq ?_
 refine GoC.region ?_
 refine GoO.pure (ps_fieldAddr rfl rfl) ?_
 refine GoO.pure (ps_load rfl At.p2 At.p2 Nat.zero_lt_one rfl rfl) ?_
 refine GoO.pure (ps_len rfl (by constructor) rfl) ?_
 refine GoO.lenLe (n := g.as.length) (x := .tmp 16) rfl (by constructor) sl_lenLe (fun ml4 => ?_)
 refine GoO.pure (ps_move rfl rfl) ?_
 refine GoO.nil ?_
 refine GoK.code ?_
 have hb := bind_l H; clear H
 obtain ⟨l10, hl17, HK7⟩ := hb
 refine GoC.blockJ [(6, .ptr β2 4 0 0)] [.one β2 68 4 (st1 (nth [.v (.int .i64 0), .v (.int .i64 0), .v (.int .i64 0), .v (.slice none 0 0)])), .one β1 24 2 (st1 (nth [.v (.int .i64 g.n), slD g.as]))] (fun v h => ∃ (β5 : BK), v = [(7, .ptr β3 4 0 0)] ∧ h = [.one β5 32 3 (row l10), .one β3 68 4 (st1 (nth [.v (.int .i64 g.n), .v (.int .i64 s), .v (.int .i64 t), .own β5 3 0 l10.length]))]) ?_ ?_
 refine GoC.loopJ [(6, _), (16, _), (17, _)] [.one β2 68 4 (st1 (nth [.v (.int .i64 0), .v (.int .i64 0), .v (.int .i64 0), .v (.slice none 0 0)])), .one β1 24 2 (st1 (nth [.v (.int .i64 g.n), slD g.as]))] (fun mQ v h => ∃ (k11 : Nat) (l6 : (List Arc)) (β5 : BK), (k11 + mQ = g.as.length ∧ forN (pairs_both_B1 g t) mQ k11 l6 = some l10) ∧ v = [(18, .v (.int .i64 ((k11 : Nat) : Int))), (7, .ptr β3 4 0 0)] ∧ h = [.one β5 32 3 (row l6), .one β3 68 4 (st1 (nth [.v (.int .i64 g.n), .v (.int .i64 s), .v (.int .i64 t), .own β5 3 0 l6.length]))]) g.as.length ⟨_, _, ⟨0, 0, 0⟩, ⟨by omega, hl17⟩, rfl, rfl⟩ (EnvD.eq rfl (EnvD.eq rfl (EnvD.eq rfl (EnvD.eq rfl (EnvD.eq rfl (EnvD.nil)))))) (TkD.no _ _ _ _ _ rfl (TkD.cons _ _ _ _ _ Rem.p0 (HLe.st ⟨⟨⟨⟨trivial, DLe.refl _⟩, DLe.refl _⟩, DLe.refl _⟩, DLe.nilOwn⟩) (TkD.cons _ _ _ _ _ Rem.p0 (HLe.st ⟨⟨⟨⟨trivial, DLe.refl _⟩, DLe.refl _⟩, DLe.refl _⟩, DLe.refl _⟩) (TkD.cons _ _ _ _ _ Rem.p0 (HLe.st ⟨⟨trivial, DLe.refl _⟩, DLe.refl _⟩) (TkD.nil _))))) ?_
 rintro m12 v h ⟨k11, l6, β5, ⟨hkk11, hF8⟩, rfl, rfl⟩
 refine GoC.seq ?_
 refine GoC.region ?_
 refine GoO.pure (ps_lss rfl rfl rfl) ?_
 refine GoO.nil ?_
 refine GoK.code ?_
 refine GoC.seq ?_
 refine GoC.condD rfl (fun (hk11 : (k11 : Int) < ((g.as.length : Nat) : Int)) => ?_) (fun (hk11 : ¬ (k11 : Int) < ((g.as.length : Nat) : Int)) => ?_)
 obtain ⟨m12', rfl⟩ : ∃ x, m12 = x + 1 := ⟨m12 - 1, by omega⟩
 have hb := bind_l hF8; clear hF8
 obtain ⟨qrm12, H, hF8⟩ := hb
 have hnk11 : k11 < g.as.length := by omega
 have hIk11 : InI ((k11 : Int) + 1) := inI_len hk11 ml4
 refine GoC.skip ?_
 refine GoK.code ?_
 refine GoC.seq ?_
 refine GoC.block ?_
 refine GoC.seq ?_
 refine GoC.region ?_
 refine GoO.pure (ps_indexAddrRN rfl rfl hnk11 rfl) ?_
 refine GoO.pure (ps_loadAgR rfl hnk11 rfl rfl) ?_
 refine GoO.effB (ef_alloc rfl) (fun β13 => ?_)
 refine GoO.eff1 (ef_storeAg rfl rfl At.p0 upd_whole Nat.zero_lt_one rfl) ?_
 refine GoO.nil ?_
 refine GoK.code ?_
 refine GoC.region ?_
 refine GoO.pure (ps_fieldAddr rfl rfl) ?_
 refine GoO.pure (ps_load rfl At.p2 At.p2 Nat.zero_lt_one rfl rfl) ?_
 refine GoO.pure (ps_loadAg rfl At.p0 At.p0 Nat.zero_lt_one rfl rfl) ?_
 refine GoO.pure (ps_fieldAddr rfl rfl) ?_
 refine GoO.pure (ps_load rfl At.p0 At.p0 Nat.zero_lt_one rfl rfl) ?_
 refine GoO.pure (ps_fieldAddr rfl rfl) ?_
 refine GoO.pure (ps_load rfl At.p0 At.p0 Nat.zero_lt_one rfl rfl) ?_
 refine GoO.pure (ps_fieldAddr rfl rfl) ?_
 refine GoO.pure (ps_load rfl At.p0 At.p0 Nat.zero_lt_one rfl rfl) ?_
 refine GoO.pure (ps_build (Parts.cons _ _ _ _ _ _ _ _ FdP.of (Part.one _ rfl rfl) rfl rfl (Parts.cons _ _ _ _ _ _ _ _ FdP.of (Part.one _ rfl rfl) rfl rfl (Parts.cons _ _ _ _ _ _ _ _ FdP.of (Part.one _ rfl rfl) rfl rfl (Parts.nil _)))) rfl) ?_
 refine GoO.effB (ef_buildSlice (row ([(g.as.getD k11 El.d), (⟨(g.as.getD k11 El.d).t, (g.as.getD k11 El.d).f, (g.as.getD k11 El.d).c⟩ : Arc)] : List Arc)) rfl (Parts.cons _ _ _ _ _ _ _ _ ⟨rfl, rfl⟩ (Part.ag _ _ rfl) rfl rfl (Parts.cons _ _ _ _ _ _ _ _ ⟨rfl, rfl⟩ (Part.ag _ _ rfl) rfl rfl (Parts.nil _))) rfl rfl rfl rfl) (fun β14 => ?_)
 have c16 := ck_l H; replace H := ck_r H
 refine GoO.effB (ef_append rfl rfl Rem.p2 (Src.own At.p0 (by first | omega | (simp only [subl_length, cpl_length, List.length_set, List.length_append, List.length_cons, List.length_nil, List.length_replicate, row_len]; omega) | (simp only [subl_length, cpl_length, List.length_set, List.length_append, List.length_cons, List.length_nil, List.length_replicate, row_len]; done))) (cat_row (α := Arc) (by first | rfl | omega | (simp only [subl_length, cpl_length, List.length_set, List.length_append, List.length_cons, List.length_nil, List.length_replicate, row_len] <;> first | rfl | omega)) (by first | rfl | omega | (simp only [subl_length, cpl_length, List.length_set, List.length_append, List.length_cons, List.length_nil, List.length_replicate, row_len] <;> first | rfl | omega)) (fun _ _ _ _ => rfl)) (by first | omega | (simp only [subl_length, cpl_length, List.length_set, List.length_append, List.length_cons, List.length_nil, List.length_replicate, row_len]; omega) | (simp only [subl_length, cpl_length, List.length_set, List.length_append, List.length_cons, List.length_nil, List.length_replicate, row_len]; done)) (app_le c16 rfl) rfl rfl rfl) (fun β15 => ?_)
 refine GoO.pure (ps_fieldAddr rfl rfl) ?_
 refine GoO.eff1 (ef_store rfl rfl rfl At.p3 upd_st1 Nat.zero_lt_one rfl) ?_
 refine GoO.nil ?_
 refine GoK.blk ?_
 refine GoK.code ?_
 refine GoC.region ?_
 refine GoO.pure (ps_add rfl rfl rfl hIk11) ?_
 refine GoO.pure (ps_move rfl rfl) ?_
 refine GoO.nil ?_
 obtain rfl := Option.some.inj H
 exact GoK.againJ m12' (by omega) ⟨_, _, β15, ⟨by omega, hF8⟩, rfl, rfl⟩ (EnvD.eq rfl (EnvD.eq rfl (EnvD.eq rfl (EnvD.eq rfl (EnvD.eq rfl (EnvD.nil)))))) (TkD.cons _ _ _ _ _ Rem.p0 (HLe.refl _) (TkD.cons _ _ _ _ _ Rem.p2 (HLe.st ⟨⟨⟨⟨trivial, DLe.refl _⟩, DLe.refl _⟩, DLe.refl _⟩, DLe.len (by first | rfl | omega | (simp only [row_len, gridC_len, rowO_len, List.length_append, List.length_cons, List.length_nil] <;> first | rfl | omega))⟩) (TkD.cons _ _ _ _ _ Rem.p2 (HLe.st ⟨⟨⟨⟨trivial, DLe.refl _⟩, DLe.refl _⟩, DLe.refl _⟩, DLe.refl _⟩) (TkD.cons _ _ _ _ _ Rem.p2 (HLe.st ⟨⟨trivial, DLe.refl _⟩, DLe.refl _⟩) (TkD.nil _)))))
 obtain rfl : m12 = 0 := by omega
 refine GoC.exit rfl ?_
 cases hF8
 exact GoK.meet ⟨β5, rfl, rfl⟩ (EnvD.eq rfl (EnvD.eq rfl (EnvD.nil))) (TkD.cons _ _ _ _ _ Rem.p0 (HLe.refl _) (TkD.cons _ _ _ _ _ Rem.p0 (HLe.st ⟨⟨⟨⟨trivial, DLe.refl _⟩, DLe.refl _⟩, DLe.refl _⟩, DLe.len (by first | rfl | omega | (simp only [row_len, gridC_len, rowO_len] <;> first | rfl | omega))⟩) (TkD.cons _ _ _ _ _ Rem.p0 (HLe.st ⟨⟨⟨⟨trivial, DLe.refl _⟩, DLe.refl _⟩, DLe.refl _⟩, DLe.refl _⟩) (TkD.cons _ _ _ _ _ Rem.p0 (HLe.st ⟨⟨trivial, DLe.refl _⟩, DLe.refl _⟩) (TkD.nil _)))))
 rintro v h ⟨β5, rfl, rfl⟩
 have H := HK7; clear HK7
 refine GoK.code ?_
 refine GoC.seq ?_
 refine GoC.region ?_
 refine GoO.pure (ps_loadAg rfl At.p1 At.p1 Nat.zero_lt_one rfl rfl) ?_
 refine GoO.eff1 (ef_storeAg rfl rfl At.p2 upd_whole Nat.zero_lt_one rfl) ?_
 refine GoO.nil ?_
 refine GoK.code ?_
 obtain rfl := Option.some.inj H
 exact GoC.retL (ds := [.ag 4 (nth [.v (.int .i64 g.n), .v (.int .i64 s), .v (.int .i64 t), .own β5 3 0 l10.length])]) Try.results42 (ResL.cons (ResD.le (ResD.cellAg rfl At.p2 Nat.zero_lt_one rfl) (by exact DLe.ag ⟨⟨⟨⟨trivial, DLe.refl _⟩, DLe.refl _⟩, DLe.refl _⟩, DLe.refl _⟩)) (ResL.nil)) (Take.cons _ _ _ _ _ Rem.p0 (Take.nil _)) ⟨β5, rfl, rfl⟩

def pairs_Part_F (g : Graph) (s : Int) (t : Int) : Option (Int × Int) :=
 (pairs_Check_F g).bind fun r2 =>
 if r2 ≠ 0 then
  some (0, r2)
 else
  (pairs_both_F g s t).bind fun r5 =>
  (cut_Least_F r5).bind fun (r8, r9, r10) =>
  some (r9, r10)
def pairs_Part_P (out : Int × Int) (d : D) (H : List HL) : Prop := d = .tp 2 (nth [.v (.int .i64 out.1), .v (.int .i64 out.2)]) ∧ H = []
theorem pairs_Part_I (out : Int × Int) : IndepP (pairs_Part_P out) := IndepP.of (by rintro _ _ ⟨rfl, rfl⟩; exact ⟨inferInstance, inferInstance⟩)
set_option maxRecDepth 100000 in
set_option maxHeartbeats 4000000 in
theorem pairs_Part_spec (g : Graph) (s : Int) (t : Int) {out : Int × Int} (H : pairs_Part_F g s t = some out) : Does Try.prog 22 [.ag 2 (nth [.v (.int .i64 g.n), slD g.as]), .v (.int .i64 s), .v (.int .i64 t)] [] (pairs_Part_P out) := by
 unfold pairs_Part_F at H
 refine Does.intro Try.func22 rfl Try.ntmps22 rfl fun w0 I0 => ?_
 refine GoC.seq ?_
 refine GoC.region ?_
 refine GoO.effB (ef_boxAg rfl rfl) (fun β1 => ?_)
 refine GoO.pure (ps_assign rfl rfl) ?_
 refine GoO.pure (ps_assign rfl rfl) ?_
 refine GoO.nil ?_
 refine GoK.code ?_
 refine GoC.seq ?_
 refine GoC.seq ?_
 refine GoC.region ?_
 refine GoO.pure (ps_loadAg rfl At.p0 At.p0 Nat.zero_lt_one rfl rfl) ?_
 have hb := bind_l H; clear H
 obtain ⟨r2, e3, H⟩ := hb
 refine GoO.effC (ef_call rfl (Take.nil _) (Take.nil _) (pairs_Check_spec g e3) (LendL.cons (Lend.agA ⟨⟨trivial, Lend.refl _ _⟩, Lend.refl _ _⟩) (LendL.nil)) rfl (pairs_Check_I (r2))) (fun rr HH hp => ?_)
 obtain ⟨rfl, rfl⟩ := hp
 refine GoO.pure (ps_assign rfl rfl) ?_
 refine GoO.nil ?_
 refine GoK.code ?_
 refine GoC.seq ?_
 refine GoC.region ?_
 refine GoO.pure (ps_move rfl rfl) ?_
 refine GoO.pure (ps_neq rfl rfl rfl) ?_
 refine GoO.nil ?_
 refine GoK.code ?_
 refine GoC.condD rfl (fun h4 => ?_) (fun h4 => ?_)
 replace H := ite_t h4 H
 refine GoC.seq ?_
 refine GoC.region ?_
 refine GoO.pure (ps_move rfl rfl) ?_
 refine GoO.pure (ps_assign rfl rfl) ?_
 refine GoO.pure (ps_assign rfl rfl) ?_
 refine GoO.nil ?_
 refine GoK.code ?_
 obtain rfl := Option.some.inj H
 exact GoC.retL (ds := [.v (.int .i64 0), .v (.int .i64 r2)]) Try.results22 (ResL.cons (ResD.tmp rfl) (ResL.cons (ResD.tmp rfl) (ResL.nil))) (Take.nil _) ⟨rfl, rfl⟩
 replace H := ite_f h4 H
 refine GoC.skip ?_
 refine GoK.code ?_
 refine GoC.seq ?_
 refine GoC.region ?_
 refine GoO.pure (ps_loadAg rfl At.p0 At.p0 Nat.zero_lt_one rfl rfl) ?_
 refine GoO.pure (ps_move rfl rfl) ?_
 refine GoO.pure (ps_move rfl rfl) ?_
 have hb := bind_l H; clear H
 obtain ⟨r5, e7, H⟩ := hb
 refine GoO.effC (ef_call rfl (Take.nil _) (Take.nil _) (pairs_both_spec g s t e7) (LendL.cons (Lend.agA ⟨⟨trivial, Lend.refl _ _⟩, Lend.refl _ _⟩) (LendL.cons (Lend.refl _ _) (LendL.cons (Lend.refl _ _) (LendL.nil)))) rfl (pairs_both_I (r5))) (fun rr HH hp => ?_)
 obtain ⟨β6, rfl, rfl⟩ := hp
 have hb := bind_l H; clear H
 obtain ⟨⟨r8, r9, r10⟩, e11, H⟩ := hb
 refine GoO.effC (ef_call rfl (Take.nil _) (Take.cons _ _ _ _ _ Rem.p0 (Take.nil _)) (cut_Least_spec r5 e11) (LendL.cons (Lend.agA ⟨⟨⟨⟨trivial, Lend.refl _ _⟩, Lend.refl _ _⟩, Lend.refl _ _⟩, Lend.all' At.p0 (by first | rfl | omega | (simp only [subl_length, cpl_length, List.length_set, List.length_append, List.length_cons, List.length_nil, List.length_replicate, row_len] <;> first | rfl | omega)) rfl⟩) (LendL.nil)) rfl (cut_Least_I (r8, r9, r10))) (fun rr HH hp => ?_)
 obtain ⟨rfl, rfl⟩ := hp
 refine GoO.pure (ps_move rfl rfl) ?_
 refine GoO.pure (ps_extract rfl rfl rfl) ?_
 refine GoO.pure (ps_extract rfl rfl rfl) ?_
 refine GoO.pure (ps_extract rfl rfl rfl) ?_
 refine GoO.pure (ps_assign rfl rfl) ?_
 refine GoO.pure (ps_assign rfl rfl) ?_
 refine GoO.pure (ps_assign rfl rfl) ?_
 refine GoO.nil ?_
 refine GoK.code ?_
 refine GoC.seq ?_
 refine GoC.region ?_
 refine GoO.pure (ps_move rfl rfl) ?_
 refine GoO.pure (ps_move rfl rfl) ?_
 refine GoO.pure (ps_assign rfl rfl) ?_
 refine GoO.pure (ps_assign rfl rfl) ?_
 refine GoO.nil ?_
 refine GoK.code ?_
 obtain rfl := Option.some.inj H
 exact GoC.retL (ds := [.v (.int .i64 r9), .v (.int .i64 r10)]) Try.results22 (ResL.cons (ResD.tmp rfl) (ResL.cons (ResD.tmp rfl) (ResL.nil))) (Take.nil _) ⟨rfl, rfl⟩

def pairs_Tree_B2 (g : Graph) (n14 : Nat) (r27 : Int) : ((List Int) × Nat) → Option (Ct ((List Int) × Nat) (Ct ((List Int) × (List Int) × Nat) ((List Int) × (List Int) × Int))) := fun (l33, n34) =>
 if ((n34 : Nat) : Int) < g.n then
  if (bitsOf .and .u16 (Int.fdiv r27 (2 ^ min n34 16)) 1) = 1 then
   ck (n34 < l33.length) <|
   ck (n14 < l33.length) <|
   if (l33.getD n34 (0 : Int)) = (l33.getD n14 (0 : Int)) then
    ck (InI (((n34 : Nat) : Int) + 1)) <|
    some (.go ((l33.set n34 ((n14 : Nat) : Int)), (n34 + 1)))
   else
    ck (InI (((n34 : Nat) : Int) + 1)) <|
    some (.go (l33, (n34 + 1)))
  else
   ck (InI (((n34 : Nat) : Int) + 1)) <|
   some (.go (l33, (n34 + 1)))
 else
  some (.brk (l33, n34))
def pairs_Tree_B1 (g : Graph) : ((List Int) × (List Int) × Nat) → Option (Ct ((List Int) × (List Int) × Nat) ((List Int) × (List Int) × Int)) := fun (l12, l13, n14) =>
 if ((n14 : Nat) : Int) < g.n then
  ck (n14 < l12.length) <|
  (pairs_both_F g ((n14 : Nat) : Int) (l12.getD n14 (0 : Int))).bind fun r24 =>
  (cut_Least_F r24).bind fun (r27, r28, r29) =>
  ck (n14 < l13.length) <|
  ck (InI (((n14 : Nat) : Int) + 1)) <|
  (loopC (pairs_Tree_B2 g n14 r27) 1000000 (l12, (n14 + 1))).bind fun q => match q with
  | .go (l38, n39) =>
   some (.go (l38, (l13.set n14 r28), (n14 + 1)))
  | .ret x => some x
 else
  some (.brk (l12, l13, n14))
def pairs_Tree_F (g : Graph) : Option ((List Int) × (List Int) × Int) :=
 (pairs_Check_F g).bind fun r2 =>
 if r2 ≠ 0 then
  some ([], [], r2)
 else
  ck (0 ≤ g.n ∧ g.n ≤ 10000000000) <|
  (loopC (pairs_Tree_B1 g) 1000000 ((List.replicate g.n.toNat (0 : Int)), (List.replicate g.n.toNat (0 : Int)), 1)).bind fun q => match q with
  | .go (l18, l19, n20) =>
   some (l18, l19, 0)
  | .ret x => some x
def pairs_Tree_P (out : (List Int) × (List Int) × Int) (d : D) (H : List HL) : Prop := ∃ β1 β2 : BK, d = .tp 3 (nth [.own β1 1 0 out.1.length, .own β2 1 0 out.2.1.length, .v (.int .i64 out.2.2)]) ∧ H = [.one β1 3 1 (row out.1), .one β2 3 1 (row out.2.1)]
theorem pairs_Tree_I (out : (List Int) × (List Int) × Int) : IndepP (pairs_Tree_P out) := IndepP.of (by rintro _ _ ⟨β1, β2, rfl, rfl⟩; exact ⟨inferInstance, inferInstance⟩)
set_option maxRecDepth 100000 in
set_option maxHeartbeats 4000000 in
theorem pairs_Tree_spec (g : Graph) {out : (List Int) × (List Int) × Int} (H : pairs_Tree_F g = some out) : Does Try.prog 21 [.ag 2 (nth [.v (.int .i64 g.n), slD g.as])] [] (pairs_Tree_P out) := by
 unfold pairs_Tree_F at H
 refine Does.intro Try.func21 rfl Try.ntmps21 rfl fun w0 I0 => ?_
 refine GoC.seq ?_
 refine GoC.region ?_
 refine GoO.effB (ef_boxAg rfl rfl) (fun β1 => ?_)
 refine GoO.pure (ps_assign rfl rfl) ?_
 refine GoO.pure (ps_assign rfl rfl) ?_
 refine GoO.pure (ps_assign rfl rfl) ?_
 refine GoO.nil ?_
 refine GoK.code ?_
 refine GoC.seq ?_
 refine GoC.seq ?_
 refine GoC.region ?_
 refine GoO.pure (ps_loadAg rfl At.p0 At.p0 Nat.zero_lt_one rfl rfl) ?_
 have hb := bind_l H; clear H
 obtain ⟨r2, e3, H⟩ := hb
 refine GoO.effC (ef_call rfl (Take.nil _) (Take.nil _) (pairs_Check_spec g e3) (LendL.cons (Lend.agA ⟨⟨trivial, Lend.refl _ _⟩, Lend.refl _ _⟩) (LendL.nil)) rfl (pairs_Check_I (r2))) (fun rr HH hp => ?_)
 obtain ⟨rfl, rfl⟩ := hp
 refine GoO.pure (ps_assign rfl rfl) ?_
 refine GoO.nil ?_
 refine GoK.code ?_
 refine GoC.seq ?_
 refine GoC.region ?_
 refine GoO.pure (ps_move rfl rfl) ?_
 refine GoO.pure (ps_neq rfl rfl rfl) ?_
 refine GoO.nil ?_
 refine GoK.code ?_
 refine GoC.condD rfl (fun h4 => ?_) (fun h4 => ?_)
 replace H := ite_t h4 H
 refine GoC.seq ?_
 refine GoC.region ?_
 refine GoO.pure (ps_move rfl rfl) ?_
 refine GoO.pure (ps_assign rfl rfl) ?_
 refine GoO.pure (ps_assign rfl rfl) ?_
 refine GoO.pure (ps_assign rfl rfl) ?_
 refine GoO.nil ?_
 refine GoK.code ?_
 obtain rfl := Option.some.inj H
 refine GoC.le (le_row0 3 1 (row ([] : List Int)) rfl) ?_
 refine GoC.le (le_row0 3 1 (row ([] : List Int)) rfl) ?_
 exact GoC.retL (ds := [.own ⟨0, 0, 0⟩ 1 0 0, .own ⟨0, 0, 0⟩ 1 0 0, .v (.int .i64 r2)]) Try.results21 (ResL.cons (ResD.le (ResD.tmp rfl) (by exact DLe.nilOwn)) (ResL.cons (ResD.le (ResD.tmp rfl) (by exact DLe.nilOwn)) (ResL.cons (ResD.tmp rfl) (ResL.nil)))) (Take.cons _ _ _ _ _ Rem.p1 (Take.cons _ _ _ _ _ Rem.p0 (Take.nil _))) ⟨⟨0, 0, 0⟩, ⟨0, 0, 0⟩, rfl, rfl⟩
 replace H := ite_f h4 H
 refine GoC.skip ?_
 refine GoK.code ?_
 refine GoC.seq ?_
 refine GoC.drawA (.q 0 (.q 1 (.q 3 (.q 4 (.two 2 5 (.q 6 (.one 5 (.q 7 (.done)))) (.one 2 (.q 6 (.q 7 (.done))))))))) follows (by kernel_rfl) ?_
 refine GoP.qN rfl (ps_fieldAddr rfl rfl) ?_
 refine GoP.qN rfl (ps_load rfl At.p0 At.p0 Nat.zero_lt_one rfl rfl) ?_
 refine GoP.qN rfl (ps_fieldAddr rfl rfl) ?_
 refine GoP.qN rfl (ps_load rfl At.p0 At.p0 Nat.zero_lt_one rfl rfl) ?_
 have c6 := ck_l H; replace H := ck_r H
 apply GoP.fork2
 exact rfl
 exact rfl
 exact trivial
 exact trivial
 exact ef_makeZ rfl rfl c6 rfl rfl rfl
 exact ef_makeZ rfl rfl c6 rfl rfl rfl
 exact (Take.cons _ _ _ _ _ Rem.p0 (Take.nil _))
 exact (Take.cons _ _ _ _ _ Rem.p0 (Take.nil _))
 intro hQ
 rintro _ ⟨β8, rfl⟩
 refine GoP.leD (Le.reH At.p0 (HLe.zeros (α := Int) ⟨trivial, DLe.refl _⟩)) ?_
 refine GoP.qN rfl (ps_assign rfl rfl) ?_
 refine GoP.oneB rfl trivial (ef_makeZ rfl rfl c6 rfl rfl rfl) (Take.cons _ _ _ _ _ Rem.p1 (Take.nil _)) (fun β10 => ?_)
 refine GoP.leD (Le.reH At.p0 (HLe.zeros (α := Int) ⟨trivial, DLe.refl _⟩)) ?_
 refine GoP.qN rfl (ps_assign rfl rfl) ?_
 exact GoP.done (hQ β8 β10)
 intro hQ
 rintro _ ⟨β9, rfl⟩
 refine GoP.leD (Le.reH At.p0 (HLe.zeros (α := Int) ⟨trivial, DLe.refl _⟩)) ?_
 refine GoP.oneB rfl trivial (ef_makeZ rfl rfl c6 rfl rfl rfl) (Take.cons _ _ _ _ _ Rem.p1 (Take.nil _)) (fun β11 => ?_)
 refine GoP.leD (Le.reH At.p0 (HLe.zeros (α := Int) ⟨trivial, DLe.refl _⟩)) ?_
 refine GoP.qN rfl (ps_assign rfl rfl) ?_
 refine GoP.qN rfl (ps_assign rfl rfl) ?_
 refine GoP.done (GoK.le ?_ (hQ β11 β9))
 refine Le.ofDW ?_ (TkD.cons _ _ _ _ _ Rem.p1 (HLe.refl _) (TkD.cons _ _ _ _ _ Rem.p0 (HLe.refl _) (TkD.cons _ _ _ _ _ Rem.p0 (HLe.refl _) (TkD.nil _))))
 repeat (first | exact EnvLeW.nil | refine EnvLeW.cons rfl ?_ | refine EnvLeW.skip rfl ?_)
 intro β8 β10
 refine GoK.code ?_
 refine GoC.seq ?_
 refine GoC.seq ?_
 refine GoC.region ?_
 refine GoO.pure (ps_assign rfl rfl) ?_
 refine GoO.nil ?_
 refine GoK.code ?_
 have hb := bind_l H; clear H
 obtain ⟨q17, hl50, HK15⟩ := hb
 refine GoC.blockJ [] [.one β1 24 2 (st1 (nth [.v (.int .i64 g.n), slD g.as]))] (fun v h => ∃ (l18 : (List Int)) (l19 : (List Int)) (n20 : Nat), q17 = .go (l18, l19, n20) ∧ v = [(6, .own β8 1 0 l18.length), (7, .own β10 1 0 l19.length)] ∧ h = [.one β8 3 1 (row l18), .one β10 3 1 (row l19)]) ?_ ?_
 refine GoC.loopJ [(1, _)] [.one β1 24 2 (st1 (nth [.v (.int .i64 g.n), slD g.as]))] (fun mQ v h => ∃ (l12 : (List Int)) (l13 : (List Int)) (n14 : Nat), loopC (pairs_Tree_B1 g) mQ (l12, l13, n14) = some q17 ∧ v = [(6, .own β8 1 0 l12.length), (7, .own β10 1 0 l13.length), (8, .v (.int .i64 ((n14 : Nat) : Int)))] ∧ h = [.one β8 3 1 (row l12), .one β10 3 1 (row l13)]) 1000000 ⟨_, _, _, hl50, rfl, rfl⟩ (EnvD.cons rfl (DLe.len (by first | rfl | omega | (simp only [row_len, gridC_len, rowO_len, List.length_replicate] <;> first | rfl | omega))) (EnvD.cons rfl (DLe.len (by first | rfl | omega | (simp only [row_len, gridC_len, rowO_len, List.length_replicate] <;> first | rfl | omega))) (EnvD.eq rfl (EnvD.eq rfl (EnvD.nil))))) (TkD.cons _ _ _ _ _ Rem.p1 (HLe.refl _) (TkD.cons _ _ _ _ _ Rem.p0 (HLe.refl _) (TkD.cons _ _ _ _ _ Rem.p0 (HLe.st ⟨⟨trivial, DLe.refl _⟩, DLe.refl _⟩) (TkD.nil _)))) ?_
 rintro m21 v h ⟨l12, l13, n14, hF16, rfl, rfl⟩
 obtain ⟨m21', rfl⟩ | rfl : (∃ x, m21 = x + 1) ∨ m21 = 0 := by cases m21 <;> simp
 case inr => cases hF16
 have hb := bind_l hF16; clear hF16
 obtain ⟨qrm21, H, hF16⟩ := hb
 refine GoC.seq ?_
 refine GoC.seq ?_
 refine GoC.region ?_
 refine GoO.pure (ps_move rfl rfl) ?_
 refine GoO.pure (ps_fieldAddr rfl rfl) ?_
 refine GoO.pure (ps_load rfl At.p2 At.p2 Nat.zero_lt_one rfl rfl) ?_
 refine GoO.pure (ps_lss rfl rfl rfl) ?_
 refine GoO.nil ?_
 refine GoK.code ?_
 refine GoC.condD rfl (fun h22 => ?_) (fun h22 => ?_)
 replace H := ite_t h22 H
 refine GoC.skip ?_
 refine GoK.code ?_
 refine GoC.seq ?_
 refine GoC.block ?_
 refine GoC.seq ?_
 refine GoC.drawA (.q 0 (.q 1 (.q 2 (.q 3 (.q 4 (.q 5 (.one 6 (.one 7 (.q 8 (.q 9 (.q 10 (.q 11 (.q 12 (.q 13 (.q 14 (.done)))))))))))))))) follows (by kernel_rfl) ?_
 refine GoP.qN rfl (ps_loadAg rfl At.p2 At.p2 Nat.zero_lt_one rfl rfl) ?_
 refine GoP.qN rfl (ps_move rfl rfl) ?_
 refine GoP.qN rfl (ps_move rfl rfl) ?_
 refine GoP.qN rfl (ps_move rfl rfl) ?_
 have c23 := ck_l H; replace H := ck_r H
 refine GoP.qN rfl (ps_indexAddr0N rfl rfl c23 rfl) ?_
 refine GoP.qN rfl (ps_load rfl At.p0 At.p0 c23 rfl rfl) ?_
 have hb := bind_l H; clear H
 obtain ⟨r24, e26, H⟩ := hb
 refine GoP.oneC rfl trivial (ef_call rfl (Take.nil _) (Take.nil _) (pairs_both_spec g ((n14 : Nat) : Int) (l12.getD n14 (0 : Int)) e26) (LendL.cons (Lend.agA ⟨⟨trivial, Lend.refl _ _⟩, Lend.refl _ _⟩) (LendL.cons (Lend.refl _ _) (LendL.cons (Lend.refl _ _) (LendL.nil)))) rfl (pairs_both_I (r24))) (Take.cons _ _ _ _ _ Rem.p0 (Take.cons _ _ _ _ _ Rem.p0 (Take.cons _ _ _ _ _ Rem.p0 (Take.nil _)))) (fun rr HH hp => ?_)
 obtain ⟨β25, rfl, rfl⟩ := hp
 have hb := bind_l H; clear H
 obtain ⟨⟨r27, r28, r29⟩, e30, H⟩ := hb
 refine GoP.oneC rfl trivial (ef_call rfl (Take.nil _) (Take.cons _ _ _ _ _ Rem.p0 (Take.nil _)) (cut_Least_spec r24 e30) (LendL.cons (Lend.agA ⟨⟨⟨⟨trivial, Lend.refl _ _⟩, Lend.refl _ _⟩, Lend.refl _ _⟩, Lend.all' At.p0 (by first | rfl | omega | (simp only [subl_length, cpl_length, List.length_set, List.length_append, List.length_cons, List.length_nil, List.length_replicate, row_len] <;> first | rfl | omega)) rfl⟩) (LendL.nil)) rfl (cut_Least_I (r27, r28, r29))) (Take.cons _ _ _ _ _ Rem.p1 (Take.cons _ _ _ _ _ Rem.p1 (Take.cons _ _ _ _ _ Rem.p1 (Take.nil _)))) (fun rr HH hp => ?_)
 obtain ⟨rfl, rfl⟩ := hp
 refine GoP.qN rfl (ps_move rfl rfl) ?_
 refine GoP.qN rfl (ps_extract rfl rfl rfl) ?_
 refine GoP.qN rfl (ps_extract rfl rfl rfl) ?_
 refine GoP.qN rfl (ps_extract rfl rfl rfl) ?_
 refine GoP.qN rfl (ps_assign rfl rfl) ?_
 refine GoP.qN rfl (ps_assign rfl rfl) ?_
 refine GoP.qN rfl (ps_assign rfl rfl) ?_
 refine GoP.done ?_
 refine GoK.code ?_
 refine GoC.seq ?_
 refine GoC.region ?_
 refine GoO.pure (ps_move rfl rfl) ?_
 refine GoO.pure (ps_move rfl rfl) ?_
 refine GoO.pure (ps_move rfl rfl) ?_
 have c31 := ck_l H; replace H := ck_r H
 refine GoO.pure (ps_indexAddr0N rfl rfl c31 rfl) ?_
 refine GoO.eff1 (ef_store rfl rfl rfl At.p2 (upd_row1 (v := r28) rfl) c31 rfl) ?_
 refine GoO.nil ?_
 refine GoK.code ?_
 refine GoC.seq ?_
 refine GoC.region ?_
 refine GoO.pure (ps_move rfl rfl) ?_
 have c32 := ck_l H; replace H := ck_r H
 refine GoO.pure (ps_add rfl rfl rfl c32) ?_
 refine GoO.pure (ps_assign rfl rfl) ?_
 refine GoO.nil ?_
 refine GoK.code ?_
 have hb := bind_l H; clear H
 obtain ⟨q37, hl49, HK35⟩ := hb
 refine GoC.blockJ [(1, .ptr β1 2 0 0), (7, .own β10 1 0 l13.length), (8, .v (.int .i64 ((n14 : Nat) : Int)))] [.one β25 32 3 (row r24.as), .one β10 3 1 (row (l13.set n14 r28)), .one β1 24 2 (st1 (nth [.v (.int .i64 g.n), slD g.as]))] (fun v h => ∃ (l38 : (List Int)) (n39 : Nat), q37 = .go (l38, n39) ∧ v = [(6, .own β8 1 0 l38.length)] ∧ h = [.one β8 3 1 (row l38)]) ?_ ?_
 refine GoC.loopJ [(1, _), (7, _), (8, _), (9, _)] [.one β25 32 3 (row r24.as), .one β10 3 1 (row (l13.set n14 r28)), .one β1 24 2 (st1 (nth [.v (.int .i64 g.n), slD g.as]))] (fun mQ v h => ∃ (l33 : (List Int)) (n34 : Nat), loopC (pairs_Tree_B2 g n14 r27) mQ (l33, n34) = some q37 ∧ v = [(6, .own β8 1 0 l33.length), (12, .v (.int .i64 ((n34 : Nat) : Int)))] ∧ h = [.one β8 3 1 (row l33)]) 1000000 ⟨_, _, hl49, rfl, rfl⟩ (EnvD.cons rfl (DLe.len (by first | rfl | omega | (simp only [row_len, gridC_len, rowO_len] <;> first | rfl | omega))) (EnvD.eq rfl (EnvD.eq rfl (EnvD.eq rfl (EnvD.eq rfl (EnvD.eq rfl (EnvD.nil))))))) (TkD.cons _ _ _ _ _ Rem.p1 (HLe.refl _) (TkD.cons _ _ _ _ _ Rem.p0 (HLe.refl _) (TkD.cons _ _ _ _ _ Rem.p0 (HLe.refl _) (TkD.cons _ _ _ _ _ Rem.p0 (HLe.st ⟨⟨trivial, DLe.refl _⟩, DLe.refl _⟩) (TkD.nil _))))) ?_
 rintro m40 v h ⟨l33, n34, hF36, rfl, rfl⟩
 obtain ⟨m40', rfl⟩ | rfl : (∃ x, m40 = x + 1) ∨ m40 = 0 := by cases m40 <;> simp
 case inr => cases hF36
 have hb := bind_l hF36; clear hF36
 obtain ⟨qrm40, H, hF36⟩ := hb
 refine GoC.seq ?_
 refine GoC.seq ?_
 refine GoC.region ?_
 refine GoO.pure (ps_move rfl rfl) ?_
 refine GoO.pure (ps_fieldAddr rfl rfl) ?_
 refine GoO.pure (ps_load rfl At.p3 At.p3 Nat.zero_lt_one rfl rfl) ?_
 refine GoO.pure (ps_lss rfl rfl rfl) ?_
 refine GoO.nil ?_
 refine GoK.code ?_
 refine GoC.condD rfl (fun h41 => ?_) (fun h41 => ?_)
 replace H := ite_t h41 H
 refine GoC.skip ?_
 refine GoK.code ?_
 refine GoC.seq ?_
 refine GoC.block ?_
 refine GoC.seq ?_
 refine GoC.drawA (.q 0 (.q 1 (.q 2 (.q 3 (.q 4 (.q 5 (.q 6 (.q 7 (.q 8 (.q 9 (.q 10 (.q 11 (.q 12 (.q 13 (.q 14 (.q 15 (.done))))))))))))))))) follows (by kernel_rfl) ?_
 refine GoP.qN rfl (ps_move rfl rfl) ?_
 refine GoP.qN rfl (ps_move rfl rfl) ?_
 refine GoP.qN rfl (ps_shr rfl rfl rfl (by omega)) ?_
 refine GoP.qN rfl (ps_and rfl rfl rfl) ?_
 refine GoP.qN rfl (ps_eql rfl rfl rfl) ?_
 refine GoP.qN rfl (ps_move rfl rfl) ?_
 refine GoP.decideD 59 rfl (fun h42 => ?_) (fun h42 => ?_)
 replace H := ite_t h42 H
 refine GoP.qT rfl rfl rfl rfl (ps_move rfl rfl) ?_
 refine GoP.qT rfl rfl rfl rfl (ps_move rfl rfl) ?_
 have c43 := ck_l H; replace H := ck_r H
 refine GoP.qT rfl rfl rfl rfl (ps_indexAddr0N rfl rfl c43 rfl) ?_
 refine GoP.qT rfl rfl rfl rfl (ps_load rfl At.p0 At.p0 c43 rfl rfl) ?_
 refine GoP.qT rfl rfl rfl rfl (ps_move rfl rfl) ?_
 refine GoP.qT rfl rfl rfl rfl (ps_move rfl rfl) ?_
 have c44 := ck_l H; replace H := ck_r H
 refine GoP.qT rfl rfl rfl rfl (ps_indexAddr0N rfl rfl c44 rfl) ?_
 refine GoP.qT rfl rfl rfl rfl (ps_load rfl At.p0 At.p0 c44 rfl rfl) ?_
 refine GoP.qT rfl rfl rfl rfl (ps_eql rfl rfl rfl) ?_
 refine GoP.qN rfl (ps_pickT rfl rfl rfl) ?_
 refine GoP.done ?_
 refine GoK.code ?_
 refine GoC.condD rfl (fun h45 => ?_) (fun h45 => ?_)
 replace H := ite_t h45 H
 refine GoC.region ?_
 refine GoO.pure (ps_move rfl rfl) ?_
 refine GoO.pure (ps_move rfl rfl) ?_
 refine GoO.pure (ps_move rfl rfl) ?_
 refine GoO.pure (ps_indexAddr0N rfl rfl c43 rfl) ?_
 refine GoO.eff1 (ef_store rfl rfl rfl At.p0 (upd_row1 (v := ((n14 : Nat) : Int)) rfl) c43 rfl) ?_
 refine GoO.nil ?_
 refine GoK.blk ?_
 refine GoK.code ?_
 refine GoC.region ?_
 refine GoO.pure (ps_move rfl rfl) ?_
 have c46 := ck_l H; replace H := ck_r H
 refine GoO.pure (ps_add rfl rfl rfl c46) ?_
 refine GoO.pure (ps_assign rfl rfl) ?_
 refine GoO.nil ?_
 obtain rfl := Option.some.inj H
 exact GoK.againJ m40' (by omega) ⟨_, _, hF36, rfl, rfl⟩ (EnvD.cons rfl (DLe.len (by first | rfl | omega | (simp only [row_len, gridC_len, rowO_len, List.length_set] <;> first | rfl | omega))) (EnvD.eq rfl (EnvD.eq rfl (EnvD.eq rfl (EnvD.eq rfl (EnvD.eq rfl (EnvD.nil))))))) (TkD.cons _ _ _ _ _ Rem.p0 (HLe.refl _) (TkD.cons _ _ _ _ _ Rem.p0 (HLe.refl _) (TkD.cons _ _ _ _ _ Rem.p0 (HLe.refl _) (TkD.cons _ _ _ _ _ Rem.p0 (HLe.st ⟨⟨trivial, DLe.refl _⟩, DLe.refl _⟩) (TkD.nil _)))))
 replace H := ite_f h45 H
 refine GoC.skip ?_
 refine GoK.blk ?_
 refine GoK.code ?_
 refine GoC.region ?_
 refine GoO.pure (ps_move rfl rfl) ?_
 have c47 := ck_l H; replace H := ck_r H
 refine GoO.pure (ps_add rfl rfl rfl c47) ?_
 refine GoO.pure (ps_assign rfl rfl) ?_
 refine GoO.nil ?_
 obtain rfl := Option.some.inj H
 exact GoK.againJ m40' (by omega) ⟨_, _, hF36, rfl, rfl⟩ (EnvD.eq rfl (EnvD.eq rfl (EnvD.eq rfl (EnvD.eq rfl (EnvD.eq rfl (EnvD.eq rfl (EnvD.nil))))))) (TkD.cons _ _ _ _ _ Rem.p0 (HLe.refl _) (TkD.cons _ _ _ _ _ Rem.p0 (HLe.refl _) (TkD.cons _ _ _ _ _ Rem.p0 (HLe.refl _) (TkD.cons _ _ _ _ _ Rem.p0 (HLe.st ⟨⟨trivial, DLe.refl _⟩, DLe.refl _⟩) (TkD.nil _)))))
 replace H := ite_f h42 H
 refine GoP.qF rfl rfl rfl rfl rfl ?_
 refine GoP.qF rfl rfl rfl rfl rfl ?_
 refine GoP.qF rfl rfl rfl rfl rfl ?_
 refine GoP.qF rfl rfl rfl rfl rfl ?_
 refine GoP.qF rfl rfl rfl rfl rfl ?_
 refine GoP.qF rfl rfl rfl rfl rfl ?_
 refine GoP.qF rfl rfl rfl rfl rfl ?_
 refine GoP.qF rfl rfl rfl rfl rfl ?_
 refine GoP.qF rfl rfl rfl rfl rfl ?_
 refine GoP.qN rfl (ps_pickF rfl rfl rfl) ?_
 refine GoP.done ?_
 refine GoK.code ?_
 refine GoC.condF rfl ?_
 refine GoC.skip ?_
 refine GoK.blk ?_
 refine GoK.code ?_
 refine GoC.region ?_
 refine GoO.pure (ps_move rfl rfl) ?_
 have c48 := ck_l H; replace H := ck_r H
 refine GoO.pure (ps_add rfl rfl rfl c48) ?_
 refine GoO.pure (ps_assign rfl rfl) ?_
 refine GoO.nil ?_
 obtain rfl := Option.some.inj H
 exact GoK.againJ m40' (by omega) ⟨_, _, hF36, rfl, rfl⟩ (EnvD.eq rfl (EnvD.eq rfl (EnvD.eq rfl (EnvD.eq rfl (EnvD.eq rfl (EnvD.eq rfl (EnvD.nil))))))) (TkD.cons _ _ _ _ _ Rem.p0 (HLe.refl _) (TkD.cons _ _ _ _ _ Rem.p0 (HLe.refl _) (TkD.cons _ _ _ _ _ Rem.p0 (HLe.refl _) (TkD.cons _ _ _ _ _ Rem.p0 (HLe.st ⟨⟨trivial, DLe.refl _⟩, DLe.refl _⟩) (TkD.nil _)))))
 replace H := ite_f h41 H
 refine GoC.exit rfl ?_
 obtain rfl := Option.some.inj H
 obtain rfl := Option.some.inj hF36
 exact GoK.meet ⟨_, _, rfl, rfl, rfl⟩ (EnvD.cons rfl (DLe.len (by first | rfl | omega | (simp only [row_len, gridC_len, rowO_len] <;> first | rfl | omega))) (EnvD.eq rfl (EnvD.cons rfl (DLe.len (by first | rfl | omega | (simp only [row_len, gridC_len, rowO_len, List.length_set] <;> first | rfl | omega))) (EnvD.eq rfl (EnvD.nil))))) (TkD.cons _ _ _ _ _ Rem.p0 (HLe.refl _) (TkD.cons _ _ _ _ _ Rem.p0 (HLe.refl _) (TkD.cons _ _ _ _ _ Rem.p0 (HLe.refl _) (TkD.cons _ _ _ _ _ Rem.p0 (HLe.st ⟨⟨trivial, DLe.refl _⟩, DLe.refl _⟩) (TkD.nil _)))))
 rintro v h ⟨l38, n39, rfl, rfl, rfl⟩
 have H := HK35; clear HK35
 refine GoK.blk ?_
 refine GoK.code ?_
 refine GoC.region ?_
 refine GoO.pure (ps_move rfl rfl) ?_
 refine GoO.pure (ps_add rfl rfl rfl c32) ?_
 refine GoO.pure (ps_assign rfl rfl) ?_
 refine GoO.nil ?_
 obtain rfl := Option.some.inj H
 exact GoK.againJ m21' (by omega) ⟨_, _, _, hF16, rfl, rfl⟩ (EnvD.cons rfl (DLe.len (by first | rfl | omega | (simp only [row_len, gridC_len, rowO_len] <;> first | rfl | omega))) (EnvD.cons rfl (DLe.len (by first | rfl | omega | (simp only [row_len, gridC_len, rowO_len, List.length_set] <;> first | rfl | omega))) (EnvD.eq rfl (EnvD.eq rfl (EnvD.nil))))) (TkD.cons _ _ _ _ _ Rem.p0 (HLe.refl _) (TkD.cons _ _ _ _ _ Rem.p1 (HLe.refl _) (TkD.cons _ _ _ _ _ Rem.p1 (HLe.st ⟨⟨trivial, DLe.refl _⟩, DLe.refl _⟩) (TkD.nil _))))
 replace H := ite_f h22 H
 refine GoC.exit rfl ?_
 obtain rfl := Option.some.inj H
 obtain rfl := Option.some.inj hF16
 exact GoK.meet ⟨_, _, _, rfl, rfl, rfl⟩ (EnvD.cons rfl (DLe.len (by first | rfl | omega | (simp only [row_len, gridC_len, rowO_len] <;> first | rfl | omega))) (EnvD.cons rfl (DLe.len (by first | rfl | omega | (simp only [row_len, gridC_len, rowO_len] <;> first | rfl | omega))) (EnvD.nil))) (TkD.cons _ _ _ _ _ Rem.p0 (HLe.refl _) (TkD.cons _ _ _ _ _ Rem.p0 (HLe.refl _) (TkD.cons _ _ _ _ _ Rem.p0 (HLe.st ⟨⟨trivial, DLe.refl _⟩, DLe.refl _⟩) (TkD.nil _))))
 rintro v h ⟨l18, l19, n20, rfl, rfl, rfl⟩
 have H := HK15; clear HK15
 refine GoK.code ?_
 refine GoC.seq ?_
 refine GoC.region ?_
 refine GoO.pure (ps_move rfl rfl) ?_
 refine GoO.pure (ps_move rfl rfl) ?_
 refine GoO.pure (ps_assign rfl rfl) ?_
 refine GoO.pure (ps_assign rfl rfl) ?_
 refine GoO.pure (ps_assign rfl rfl) ?_
 refine GoO.nil ?_
 refine GoK.code ?_
 obtain rfl := Option.some.inj H
 exact GoC.retL (ds := [.own β8 1 0 l18.length, .own β10 1 0 l19.length, .v (.int .i64 0)]) Try.results21 (ResL.cons (ResD.tmp rfl) (ResL.cons (ResD.tmp rfl) (ResL.cons (ResD.tmp rfl) (ResL.nil)))) (Take.cons _ _ _ _ _ Rem.p0 (Take.cons _ _ _ _ _ Rem.p0 (Take.nil _))) ⟨β8, β10, rfl, rfl⟩

def pairs_On_B1 (up : (List Int)) : Nat → Unit → Option (Ct (Unit) (Int × Int)) := fun k9 _ =>
 if 0 < ((k9 : Nat) : Int) then
  if (up.getD k9 (0 : Int)) < 0 then
   some (.ret (0, 3))
  else
   if ((k9 : Nat) : Int) ≤ (up.getD k9 (0 : Int)) then
    some (.ret (0, 3))
   else
    if ((k9 : Nat) : Int) = 0 then
     if (up.getD k9 (0 : Int)) ≠ 0 then
      some (.ret (0, 3))
     else
      some (.go ())
    else
     some (.go ())
 else
  if ((k9 : Nat) : Int) = 0 then
   if (up.getD k9 (0 : Int)) ≠ 0 then
    some (.ret (0, 3))
   else
    some (.go ())
  else
   some (.go ())
def pairs_On_B2 (up : (List Int)) (weight : (List Int)) : (Int × Int × Int × Bool) → Option (Ct (Int × Int × Int × Bool) (Int × Int)) := fun (x24, x25, x26, b27) =>
 if x24 ≠ x25 then
  ((
   if x24 < x25 then
    some (x25, x24)
   else
    some (x24, x25)) : Option (Int × Int)).bind fun (x37, x38) =>
  ((
   if (!b27) = true then
    ck (0 ≤ x37 ∧ x37 < ((weight.length : Nat) : Int)) <|
    some ((weight.getD x37.toNat (0 : Int)), true)
   else
    ck (0 ≤ x37 ∧ x37 < ((weight.length : Nat) : Int)) <|
    if (weight.getD x37.toNat (0 : Int)) < x26 then
     some ((weight.getD x37.toNat (0 : Int)), true)
    else
     some (x26, b27)) : Option (Int × Bool)).bind fun (x42, b43) =>
  ck (0 ≤ x37 ∧ x37 < ((up.length : Nat) : Int)) <|
  some (.go ((up.getD x37.toNat (0 : Int)), x38, x42, b43))
 else
  some (.brk (x24, x25, x26, b27))
def pairs_On_F (up : (List Int)) (weight : (List Int)) (s : Int) (t : Int) : Option (Int × Int) :=
 if ((up.length : Nat) : Int) < 1 then
  some (0, 2)
 else
  if 12 < ((up.length : Nat) : Int) then
   some (0, 2)
  else
   if ((weight.length : Nat) : Int) ≠ ((up.length : Nat) : Int) then
    some (0, 3)
   else
    (forC (pairs_On_B1 up) up.length 0 ()).bind fun q => match q with
    | .go _ =>
     if s < 0 then
      some (0, 4)
     else
      if ((up.length : Nat) : Int) ≤ s then
       some (0, 4)
      else
       if t < 0 then
        some (0, 4)
       else
        if ((up.length : Nat) : Int) ≤ t then
         some (0, 4)
        else
         if s = t then
          some (0, 3)
         else
          (loopC (pairs_On_B2 up weight) 1000000 (s, t, 0, false)).bind fun q => match q with
          | .go (x31, x32, x33, b34) =>
           some (x33, 0)
          | .ret x => some x
    | .ret x => some x
def pairs_On_P (out : Int × Int) (d : D) (H : List HL) : Prop := d = .tp 2 (nth [.v (.int .i64 out.1), .v (.int .i64 out.2)]) ∧ H = []
theorem pairs_On_I (out : Int × Int) : IndepP (pairs_On_P out) := IndepP.of (by rintro _ _ ⟨rfl, rfl⟩; exact ⟨inferInstance, inferInstance⟩)
set_option maxRecDepth 100000 in
set_option maxHeartbeats 4000000 in
theorem pairs_On_spec (up : (List Int)) (weight : (List Int)) (s : Int) (t : Int) {out : Int × Int} (H : pairs_On_F up weight s t = some out) : Does Try.prog 23 [slD up, slD weight, .v (.int .i64 s), .v (.int .i64 t)] [] (pairs_On_P out) := by
 unfold pairs_On_F at H
 refine Does.intro Try.func23 rfl Try.ntmps23 rfl fun w0 I0 => ?_
 refine GoC.seq ?_
 refine GoC.region ?_
 refine GoO.pure (ps_assign rfl rfl) ?_
 refine GoO.pure (ps_assign rfl rfl) ?_
 refine GoO.nil ?_
 refine GoK.code ?_
 refine GoC.seq ?_
 refine GoC.region ?_
 refine GoO.pure (ps_move rfl rfl) ?_
 refine GoO.pure (ps_len rfl (by constructor) rfl) ?_
 refine GoO.lenLe (n := up.length) (x := .tmp 15) rfl (by constructor) sl_lenLe (fun ml1 => ?_)
 refine GoO.pure (ps_assign rfl rfl) ?_
 refine GoO.nil ?_
 refine GoK.code ?_
 refine GoC.seq ?_
 refine GoC.seq ?_
 refine GoC.region ?_
 refine GoO.pure (ps_move rfl rfl) ?_
 refine GoO.pure (ps_lss rfl rfl rfl) ?_
 refine GoO.pure (ps_move rfl rfl) ?_
 refine GoO.guardE rfl rfl rfl rfl (fun h2 => ?_) (fun h2 => ?_)
 replace H := ite_f h2 H
 refine GoO.pure (ps_move rfl rfl) ?_
 refine GoO.guardT rfl rfl rfl ?_
 refine GoO.pure (ps_gtr rfl rfl rfl) ?_
 refine GoO.pure (ps_pickF rfl rfl rfl) ?_
 refine GoO.nil ?_
 refine GoK.code ?_
 refine GoC.condD rfl (fun h3 => ?_) (fun h3 => ?_)
 replace H := ite_t h3 H
 refine GoC.seq ?_
 refine GoC.region ?_
 refine GoO.pure (ps_assign rfl rfl) ?_
 refine GoO.pure (ps_assign rfl rfl) ?_
 refine GoO.nil ?_
 refine GoK.code ?_
 obtain rfl := Option.some.inj H
 exact GoC.retL (ds := [.v (.int .i64 0), .v (.int .i64 2)]) Try.results23 (ResL.cons (ResD.tmp rfl) (ResL.cons (ResD.tmp rfl) (ResL.nil))) (Take.nil _) ⟨rfl, rfl⟩
 replace H := ite_f h3 H
 refine GoC.skip ?_
 refine GoK.code ?_
 refine GoC.seq ?_
 refine GoC.seq ?_
 refine GoC.region ?_
 refine GoO.pure (ps_move rfl rfl) ?_
 refine GoO.pure (ps_len rfl (by constructor) rfl) ?_
 refine GoO.lenLe (n := weight.length) (x := .tmp 23) rfl (by constructor) sl_lenLe (fun ml4 => ?_)
 refine GoO.pure (ps_move rfl rfl) ?_
 refine GoO.pure (ps_neq rfl rfl rfl) ?_
 refine GoO.nil ?_
 refine GoK.code ?_
 refine GoC.condD rfl (fun h5 => ?_) (fun h5 => ?_)
 replace H := ite_t h5 H
 refine GoC.seq ?_
 refine GoC.region ?_
 refine GoO.pure (ps_assign rfl rfl) ?_
 refine GoO.pure (ps_assign rfl rfl) ?_
 refine GoO.nil ?_
 refine GoK.code ?_
 obtain rfl := Option.some.inj H
 exact GoC.retL (ds := [.v (.int .i64 0), .v (.int .i64 3)]) Try.results23 (ResL.cons (ResD.tmp rfl) (ResL.cons (ResD.tmp rfl) (ResL.nil))) (Take.nil _) ⟨rfl, rfl⟩
 replace H := ite_f h5 H
 refine GoC.skip ?_
 refine GoK.code ?_
 refine GoC.seq ?_
 refine GoC.seq ?_
 refine GoC.region ?_
 refine GoO.pure (ps_move rfl rfl) ?_
 refine GoO.pure (ps_len rfl (by constructor) rfl) ?_
 refine GoO.pure (ps_move rfl rfl) ?_
 refine GoO.nil ?_
 refine GoK.code ?_
 have hb := bind_l H; clear H
 obtain ⟨q8, hl18, HK6⟩ := hb
 refine GoC.blockJ [(0, slD up), (1, slD weight), (2, .v (.int .i64 s)), (3, .v (.int .i64 t)), (10, .v (.int .i64 ((up.length : Nat) : Int)))] [] (fun v h => q8 = .go () ∧ v = [] ∧ h = []) ?_ ?_
 refine GoC.loopJ [(0, _), (1, _), (2, _), (3, _), (10, _), (27, _), (28, _)] [] (fun mQ v h => ∃ (k9 : Nat), (k9 + mQ = up.length ∧ forC (pairs_On_B1 up) mQ k9 () = some q8) ∧ v = [(29, .v (.int .i64 ((k9 : Nat) : Int)))] ∧ h = []) up.length ⟨_, ⟨by omega, hl18⟩, rfl, rfl⟩ (EnvD.eq rfl (EnvD.eq rfl (EnvD.eq rfl (EnvD.eq rfl (EnvD.eq rfl (EnvD.eq rfl (EnvD.eq rfl (EnvD.eq rfl (EnvD.nil))))))))) (TkD.nil _) ?_
 rintro m10 v h ⟨k9, ⟨hkk9, hF7⟩, rfl, rfl⟩
 refine GoC.seq ?_
 refine GoC.region ?_
 refine GoO.pure (ps_lss rfl rfl rfl) ?_
 refine GoO.nil ?_
 refine GoK.code ?_
 refine GoC.seq ?_
 refine GoC.condD rfl (fun (hk9 : (k9 : Int) < ((up.length : Nat) : Int)) => ?_) (fun (hk9 : ¬ (k9 : Int) < ((up.length : Nat) : Int)) => ?_)
 obtain ⟨m10', rfl⟩ : ∃ x, m10 = x + 1 := ⟨m10 - 1, by omega⟩
 have hb := bind_l hF7; clear hF7
 obtain ⟨qrm10, H, hF7⟩ := hb
 have hnk9 : k9 < up.length := by omega
 have hIk9 : InI ((k9 : Int) + 1) := inI_len hk9 ml1
 refine GoC.skip ?_
 refine GoK.code ?_
 refine GoC.seq ?_
 refine GoC.block ?_
 refine GoC.seq ?_
 refine GoC.region ?_
 refine GoO.pure (ps_move rfl rfl) ?_
 refine GoO.pure (ps_indexAddrRN rfl rfl hnk9 rfl) ?_
 refine GoO.pure (ps_loadR rfl hnk9 rfl rfl) ?_
 refine GoO.pure (ps_assign rfl rfl) ?_
 refine GoO.pure (ps_assign rfl rfl) ?_
 refine GoO.nil ?_
 refine GoK.code ?_
 refine GoC.seq ?_
 refine GoC.region ?_
 refine GoO.pure (ps_move rfl rfl) ?_
 refine GoO.pure (ps_gtr rfl rfl rfl) ?_
 refine GoO.pure (ps_move rfl rfl) ?_
 refine GoO.guardD rfl rfl rfl rfl (fun h11 => ?_) (fun h11 => ?_)
 replace H := ite_t h11 H
 refine GoO.pure (ps_move rfl rfl) ?_
 refine GoO.guardT rfl rfl rfl ?_
 refine GoO.pure (ps_lss rfl rfl rfl) ?_
 refine GoO.guardT rfl rfl rfl ?_
 refine GoO.pure (ps_move rfl rfl) ?_
 refine GoO.guardE rfl rfl rfl rfl (fun h12 => ?_) (fun h12 => ?_)
 replace H := ite_f h12 H
 refine GoO.pure (ps_move rfl rfl) ?_
 refine GoO.guardT rfl rfl rfl ?_
 refine GoO.pure (ps_move rfl rfl) ?_
 refine GoO.guardT rfl rfl rfl ?_
 refine GoO.pure (ps_geq rfl rfl rfl) ?_
 refine GoO.guardT rfl rfl rfl ?_
 refine GoO.pure (ps_pickF rfl rfl rfl) ?_
 refine GoO.pure (ps_pickT rfl rfl rfl) ?_
 refine GoO.pure (ps_move rfl rfl) ?_
 refine GoO.guardE rfl rfl rfl rfl (fun h13 => ?_) (fun h13 => ?_)
 replace H := ite_f h13 H
 refine GoO.pure (ps_move rfl rfl) ?_
 refine GoO.guardT rfl rfl rfl ?_
 refine GoO.pure (ps_eql rfl rfl rfl) ?_
 refine GoO.guardT rfl rfl rfl ?_
 refine GoO.pure (ps_move rfl rfl) ?_
 refine GoO.guardD rfl rfl rfl rfl (fun h14 => ?_) (fun h14 => ?_)
 replace H := ite_t h14 H
 refine GoO.pure (ps_move rfl rfl) ?_
 refine GoO.guardT rfl rfl rfl ?_
 refine GoO.pure (ps_neq rfl rfl rfl) ?_
 refine GoO.guardT rfl rfl rfl ?_
 refine GoO.pure (ps_pickT rfl rfl rfl) ?_
 refine GoO.pure (ps_pickF rfl rfl rfl) ?_
 refine GoO.nil ?_
 refine GoK.code ?_
 refine GoC.condD rfl (fun h15 => ?_) (fun h15 => ?_)
 replace H := ite_t h15 H
 refine GoC.seq ?_
 refine GoC.region ?_
 refine GoO.pure (ps_assign rfl rfl) ?_
 refine GoO.pure (ps_assign rfl rfl) ?_
 refine GoO.nil ?_
 refine GoK.code ?_
 obtain rfl := Option.some.inj H
 obtain rfl := Option.some.inj hF7
 obtain rfl := Option.some.inj HK6
 exact GoC.retL (ds := [.v (.int .i64 0), .v (.int .i64 3)]) Try.results23 (ResL.cons (ResD.tmp rfl) (ResL.cons (ResD.tmp rfl) (ResL.nil))) (Take.nil _) ⟨rfl, rfl⟩
 replace H := ite_f h15 H
 refine GoC.skip ?_
 refine GoK.blk ?_
 refine GoK.code ?_
 refine GoC.region ?_
 refine GoO.pure (ps_add rfl rfl rfl hIk9) ?_
 refine GoO.pure (ps_move rfl rfl) ?_
 refine GoO.nil ?_
 obtain rfl := Option.some.inj H
 exact GoK.againJ m10' (by omega) ⟨_, ⟨by omega, hF7⟩, rfl, rfl⟩ (EnvD.eq rfl (EnvD.eq rfl (EnvD.eq rfl (EnvD.eq rfl (EnvD.eq rfl (EnvD.eq rfl (EnvD.eq rfl (EnvD.eq rfl (EnvD.nil))))))))) (TkD.nil _)
 replace H := ite_f h14 H
 refine GoO.guardF rfl rfl rfl rfl ?_
 refine GoO.guardT rfl rfl rfl ?_
 refine GoO.pure (ps_pickF rfl rfl rfl) ?_
 refine GoO.pure (ps_pickF rfl rfl rfl) ?_
 refine GoO.nil ?_
 refine GoK.code ?_
 refine GoC.condF rfl ?_
 refine GoC.skip ?_
 refine GoK.blk ?_
 refine GoK.code ?_
 refine GoC.region ?_
 refine GoO.pure (ps_add rfl rfl rfl hIk9) ?_
 refine GoO.pure (ps_move rfl rfl) ?_
 refine GoO.nil ?_
 obtain rfl := Option.some.inj H
 exact GoK.againJ m10' (by omega) ⟨_, ⟨by omega, hF7⟩, rfl, rfl⟩ (EnvD.eq rfl (EnvD.eq rfl (EnvD.eq rfl (EnvD.eq rfl (EnvD.eq rfl (EnvD.eq rfl (EnvD.eq rfl (EnvD.eq rfl (EnvD.nil))))))))) (TkD.nil _)
 replace H := ite_t h13 H
 refine GoO.guardF rfl rfl rfl rfl ?_
 refine GoO.guardF rfl rfl rfl rfl ?_
 refine GoO.guardU rfl rfl rfl rfl ?_
 refine GoO.guardU rfl rfl rfl rfl ?_
 refine GoO.guardF rfl rfl rfl rfl ?_
 refine GoO.pure (ps_pickT rfl rfl rfl) ?_
 refine GoO.nil ?_
 refine GoK.code ?_
 refine GoC.condT rfl ?_
 refine GoC.seq ?_
 refine GoC.region ?_
 refine GoO.pure (ps_assign rfl rfl) ?_
 refine GoO.pure (ps_assign rfl rfl) ?_
 refine GoO.nil ?_
 refine GoK.code ?_
 obtain rfl := Option.some.inj H
 obtain rfl := Option.some.inj hF7
 obtain rfl := Option.some.inj HK6
 exact GoC.retL (ds := [.v (.int .i64 0), .v (.int .i64 3)]) Try.results23 (ResL.cons (ResD.tmp rfl) (ResL.cons (ResD.tmp rfl) (ResL.nil))) (Take.nil _) ⟨rfl, rfl⟩
 replace H := ite_t h12 H
 refine GoO.guardF rfl rfl rfl rfl ?_
 refine GoO.guardF rfl rfl rfl rfl ?_
 refine GoO.guardT rfl rfl rfl ?_
 refine GoO.pure (ps_pickT rfl rfl rfl) ?_
 refine GoO.pure (ps_pickT rfl rfl rfl) ?_
 refine GoO.pure (ps_move rfl rfl) ?_
 refine GoO.guardF rfl rfl rfl rfl ?_
 refine GoO.guardF rfl rfl rfl rfl ?_
 refine GoO.guardF rfl rfl rfl rfl ?_
 refine GoO.guardU rfl rfl rfl rfl ?_
 refine GoO.guardU rfl rfl rfl rfl ?_
 refine GoO.guardF rfl rfl rfl rfl ?_
 refine GoO.pure (ps_pickT rfl rfl rfl) ?_
 refine GoO.nil ?_
 refine GoK.code ?_
 refine GoC.condT rfl ?_
 refine GoC.seq ?_
 refine GoC.region ?_
 refine GoO.pure (ps_assign rfl rfl) ?_
 refine GoO.pure (ps_assign rfl rfl) ?_
 refine GoO.nil ?_
 refine GoK.code ?_
 obtain rfl := Option.some.inj H
 obtain rfl := Option.some.inj hF7
 obtain rfl := Option.some.inj HK6
 exact GoC.retL (ds := [.v (.int .i64 0), .v (.int .i64 3)]) Try.results23 (ResL.cons (ResD.tmp rfl) (ResL.cons (ResD.tmp rfl) (ResL.nil))) (Take.nil _) ⟨rfl, rfl⟩
 replace H := ite_f h11 H
 refine GoO.guardF rfl rfl rfl rfl ?_
 refine GoO.guardF rfl rfl rfl rfl ?_
 refine GoO.guardU rfl rfl rfl rfl ?_
 refine GoO.guardU rfl rfl rfl rfl ?_
 refine GoO.guardU rfl rfl rfl rfl ?_
 refine GoO.guardF rfl rfl rfl rfl ?_
 refine GoO.pure (ps_pickF rfl rfl rfl) ?_
 refine GoO.pure (ps_move rfl rfl) ?_
 refine GoO.guardT rfl rfl rfl ?_
 refine GoO.pure (ps_move rfl rfl) ?_
 refine GoO.guardT rfl rfl rfl ?_
 refine GoO.pure (ps_eql rfl rfl rfl) ?_
 refine GoO.guardT rfl rfl rfl ?_
 refine GoO.pure (ps_move rfl rfl) ?_
 refine GoO.guardD rfl rfl rfl rfl (fun h16 => ?_) (fun h16 => ?_)
 replace H := ite_t h16 H
 refine GoO.pure (ps_move rfl rfl) ?_
 refine GoO.guardT rfl rfl rfl ?_
 refine GoO.pure (ps_neq rfl rfl rfl) ?_
 refine GoO.guardT rfl rfl rfl ?_
 refine GoO.pure (ps_pickT rfl rfl rfl) ?_
 refine GoO.pure (ps_pickF rfl rfl rfl) ?_
 refine GoO.nil ?_
 refine GoK.code ?_
 refine GoC.condD rfl (fun h17 => ?_) (fun h17 => ?_)
 replace H := ite_t h17 H
 refine GoC.seq ?_
 refine GoC.region ?_
 refine GoO.pure (ps_assign rfl rfl) ?_
 refine GoO.pure (ps_assign rfl rfl) ?_
 refine GoO.nil ?_
 refine GoK.code ?_
 obtain rfl := Option.some.inj H
 obtain rfl := Option.some.inj hF7
 obtain rfl := Option.some.inj HK6
 exact GoC.retL (ds := [.v (.int .i64 0), .v (.int .i64 3)]) Try.results23 (ResL.cons (ResD.tmp rfl) (ResL.cons (ResD.tmp rfl) (ResL.nil))) (Take.nil _) ⟨rfl, rfl⟩
 replace H := ite_f h17 H
 refine GoC.skip ?_
 refine GoK.blk ?_
 refine GoK.code ?_
 refine GoC.region ?_
 refine GoO.pure (ps_add rfl rfl rfl hIk9) ?_
 refine GoO.pure (ps_move rfl rfl) ?_
 refine GoO.nil ?_
 obtain rfl := Option.some.inj H
 exact GoK.againJ m10' (by omega) ⟨_, ⟨by omega, hF7⟩, rfl, rfl⟩ (EnvD.eq rfl (EnvD.eq rfl (EnvD.eq rfl (EnvD.eq rfl (EnvD.eq rfl (EnvD.eq rfl (EnvD.eq rfl (EnvD.eq rfl (EnvD.nil))))))))) (TkD.nil _)
 replace H := ite_f h16 H
 refine GoO.guardF rfl rfl rfl rfl ?_
 refine GoO.guardT rfl rfl rfl ?_
 refine GoO.pure (ps_pickF rfl rfl rfl) ?_
 refine GoO.pure (ps_pickF rfl rfl rfl) ?_
 refine GoO.nil ?_
 refine GoK.code ?_
 refine GoC.condF rfl ?_
 refine GoC.skip ?_
 refine GoK.blk ?_
 refine GoK.code ?_
 refine GoC.region ?_
 refine GoO.pure (ps_add rfl rfl rfl hIk9) ?_
 refine GoO.pure (ps_move rfl rfl) ?_
 refine GoO.nil ?_
 obtain rfl := Option.some.inj H
 exact GoK.againJ m10' (by omega) ⟨_, ⟨by omega, hF7⟩, rfl, rfl⟩ (EnvD.eq rfl (EnvD.eq rfl (EnvD.eq rfl (EnvD.eq rfl (EnvD.eq rfl (EnvD.eq rfl (EnvD.eq rfl (EnvD.eq rfl (EnvD.nil))))))))) (TkD.nil _)
 obtain rfl : m10 = 0 := by omega
 refine GoC.exit rfl ?_
 cases hF7
 exact GoK.meet ⟨rfl, rfl, rfl⟩ (EnvD.eq rfl (EnvD.eq rfl (EnvD.eq rfl (EnvD.eq rfl (EnvD.eq rfl (EnvD.nil)))))) (TkD.nil _)
 rintro v h ⟨rfl, rfl, rfl⟩
 have H := HK6; clear HK6
 refine GoK.code ?_
 refine GoC.seq ?_
 refine GoC.seq ?_
 refine GoC.region ?_
 refine GoO.pure (ps_move rfl rfl) ?_
 refine GoO.pure (ps_lss rfl rfl rfl) ?_
 refine GoO.pure (ps_move rfl rfl) ?_
 refine GoO.guardE rfl rfl rfl rfl (fun h19 => ?_) (fun h19 => ?_)
 replace H := ite_f h19 H
 refine GoO.pure (ps_move rfl rfl) ?_
 refine GoO.guardT rfl rfl rfl ?_
 refine GoO.pure (ps_move rfl rfl) ?_
 refine GoO.guardT rfl rfl rfl ?_
 refine GoO.pure (ps_geq rfl rfl rfl) ?_
 refine GoO.pure (ps_pickF rfl rfl rfl) ?_
 refine GoO.pure (ps_move rfl rfl) ?_
 refine GoO.guardE rfl rfl rfl rfl (fun h20 => ?_) (fun h20 => ?_)
 replace H := ite_f h20 H
 refine GoO.pure (ps_move rfl rfl) ?_
 refine GoO.guardT rfl rfl rfl ?_
 refine GoO.pure (ps_lss rfl rfl rfl) ?_
 refine GoO.pure (ps_pickF rfl rfl rfl) ?_
 refine GoO.pure (ps_move rfl rfl) ?_
 refine GoO.guardE rfl rfl rfl rfl (fun h21 => ?_) (fun h21 => ?_)
 replace H := ite_f h21 H
 refine GoO.pure (ps_move rfl rfl) ?_
 refine GoO.guardT rfl rfl rfl ?_
 refine GoO.pure (ps_move rfl rfl) ?_
 refine GoO.guardT rfl rfl rfl ?_
 refine GoO.pure (ps_geq rfl rfl rfl) ?_
 refine GoO.pure (ps_pickF rfl rfl rfl) ?_
 refine GoO.nil ?_
 refine GoK.code ?_
 refine GoC.condD rfl (fun h22 => ?_) (fun h22 => ?_)
 replace H := ite_t h22 H
 refine GoC.seq ?_
 refine GoC.region ?_
 refine GoO.pure (ps_assign rfl rfl) ?_
 refine GoO.pure (ps_assign rfl rfl) ?_
 refine GoO.nil ?_
 refine GoK.code ?_
 obtain rfl := Option.some.inj H
 exact GoC.retL (ds := [.v (.int .i64 0), .v (.int .i64 4)]) Try.results23 (ResL.cons (ResD.tmp rfl) (ResL.cons (ResD.tmp rfl) (ResL.nil))) (Take.nil _) ⟨rfl, rfl⟩
 replace H := ite_f h22 H
 refine GoC.skip ?_
 refine GoK.code ?_
 refine GoC.seq ?_
 refine GoC.seq ?_
 refine GoC.region ?_
 refine GoO.pure (ps_move rfl rfl) ?_
 refine GoO.pure (ps_move rfl rfl) ?_
 refine GoO.pure (ps_eql rfl rfl rfl) ?_
 refine GoO.nil ?_
 refine GoK.code ?_
 refine GoC.condD rfl (fun h23 => ?_) (fun h23 => ?_)
 replace H := ite_t h23 H
 refine GoC.seq ?_
 refine GoC.region ?_
 refine GoO.pure (ps_assign rfl rfl) ?_
 refine GoO.pure (ps_assign rfl rfl) ?_
 refine GoO.nil ?_
 refine GoK.code ?_
 obtain rfl := Option.some.inj H
 exact GoC.retL (ds := [.v (.int .i64 0), .v (.int .i64 3)]) Try.results23 (ResL.cons (ResD.tmp rfl) (ResL.cons (ResD.tmp rfl) (ResL.nil))) (Take.nil _) ⟨rfl, rfl⟩
 replace H := ite_f h23 H
 refine GoC.skip ?_
 refine GoK.code ?_
 refine GoC.seq ?_
 refine GoC.region ?_
 refine GoO.pure (ps_assign rfl rfl) ?_
 refine GoO.pure (ps_assign rfl rfl) ?_
 refine GoO.nil ?_
 refine GoK.code ?_
 refine GoC.seq ?_
 have hb := bind_l H; clear H
 obtain ⟨q30, hl51, HK28⟩ := hb
 refine GoC.blockJ [] [] (fun v h => ∃ (x31 : Int) (x32 : Int) (x33 : Int) (b34 : Bool), q30 = .go (x31, x32, x33, b34) ∧ v = [(13, .v (.int .i64 x33))] ∧ h = []) ?_ ?_
 refine GoC.loopJ [(0, _), (1, _)] [] (fun mQ v h => ∃ (x24 : Int) (x25 : Int) (x26 : Int) (b27 : Bool), loopC (pairs_On_B2 up weight) mQ (x24, x25, x26, b27) = some q30 ∧ v = [(2, .v (.int .i64 x24)), (3, .v (.int .i64 x25)), (13, .v (.int .i64 x26)), (14, .v (.bool b27))] ∧ h = []) 1000000 ⟨_, _, _, _, hl51, rfl, rfl⟩ (EnvD.eq rfl (EnvD.eq rfl (EnvD.eq rfl (EnvD.eq rfl (EnvD.eq rfl (EnvD.eq rfl (EnvD.nil))))))) (TkD.nil _) ?_
 rintro m35 v h ⟨x24, x25, x26, b27, hF29, rfl, rfl⟩
 obtain ⟨m35', rfl⟩ | rfl : (∃ x, m35 = x + 1) ∨ m35 = 0 := by cases m35 <;> simp
 case inr => cases hF29
 have hb := bind_l hF29; clear hF29
 obtain ⟨qrm35, H, hF29⟩ := hb
 refine GoC.seq ?_
 refine GoC.seq ?_
 refine GoC.region ?_
 refine GoO.pure (ps_move rfl rfl) ?_
 refine GoO.pure (ps_move rfl rfl) ?_
 refine GoO.pure (ps_neq rfl rfl rfl) ?_
 refine GoO.nil ?_
 refine GoK.code ?_
 refine GoC.condD rfl (fun h36 => ?_) (fun h36 => ?_)
 replace H := ite_t h36 H
 refine GoC.skip ?_
 refine GoK.code ?_
 refine GoC.block ?_
 have hb := bind_l H; clear H
 obtain ⟨⟨x37, x38⟩, H, HK39⟩ := hb
 refine GoC.seqJ [(0, slD up), (1, slD weight), (13, .v (.int .i64 x26)), (14, .v (.bool b27))] [] (fun v h => v = [(2, .v (.int .i64 x37)), (3, .v (.int .i64 x38))] ∧ h = []) ?_ ?_
 refine GoC.seq ?_
 refine GoC.region ?_
 refine GoO.pure (ps_move rfl rfl) ?_
 refine GoO.pure (ps_move rfl rfl) ?_
 refine GoO.pure (ps_lss rfl rfl rfl) ?_
 refine GoO.nil ?_
 refine GoK.code ?_
 refine GoC.condD rfl (fun h41 => ?_) (fun h41 => ?_)
 replace H := ite_t h41 H
 refine GoC.region ?_
 refine GoO.pure (ps_move rfl rfl) ?_
 refine GoO.pure (ps_move rfl rfl) ?_
 refine GoO.pure (ps_assign rfl rfl) ?_
 refine GoO.pure (ps_assign rfl rfl) ?_
 refine GoO.nil ?_
 cases H
 exact GoK.meet ⟨rfl, rfl⟩ (EnvD.eq rfl (EnvD.eq rfl (EnvD.eq rfl (EnvD.eq rfl (EnvD.eq rfl (EnvD.eq rfl (EnvD.nil))))))) (TkD.nil _)
 replace H := ite_f h41 H
 refine GoC.skip ?_
 cases H
 exact GoK.meet ⟨rfl, rfl⟩ (EnvD.eq rfl (EnvD.eq rfl (EnvD.eq rfl (EnvD.eq rfl (EnvD.eq rfl (EnvD.eq rfl (EnvD.nil))))))) (TkD.nil _)
 rintro v h ⟨rfl, rfl⟩
 have H := HK39; clear HK39
 have hb := bind_l H; clear H
 obtain ⟨⟨x42, b43⟩, H, HK44⟩ := hb
 refine GoC.seqJ [(0, slD up), (1, slD weight), (2, .v (.int .i64 x37)), (3, .v (.int .i64 x38))] [] (fun v h => v = [(13, .v (.int .i64 x42)), (14, .v (.bool b43))] ∧ h = []) ?_ ?_
 refine GoC.seq ?_
 refine GoC.region ?_
 refine GoO.pure (ps_move rfl rfl) ?_
 refine GoO.pure (ps_not rfl rfl) ?_
 refine GoO.pure (ps_move rfl rfl) ?_
 refine GoO.guard rfl rfl rfl rfl (fun h46 => ?_) (fun h46 => ?_)
 replace H := itb_f h46 H
 refine GoO.pure (ps_move rfl rfl) ?_
 refine GoO.guardT rfl rfl rfl ?_
 refine GoO.pure (ps_move rfl rfl) ?_
 refine GoO.guardT rfl rfl rfl ?_
 have c47 := ck_l H; replace H := ck_r H
 refine GoO.pure (ps_indexAddrR rfl rfl c47 rfl) ?_
 refine GoO.guardT rfl rfl rfl ?_
 refine GoO.pure (ps_loadR rfl (idx_lt c47) rfl rfl) ?_
 refine GoO.guardT rfl rfl rfl ?_
 refine GoO.pure (ps_move rfl rfl) ?_
 refine GoO.guardT rfl rfl rfl ?_
 refine GoO.pure (ps_lss rfl rfl rfl) ?_
 refine GoO.pure (ps_pickF rfl rfl rfl) ?_
 refine GoO.nil ?_
 refine GoK.code ?_
 refine GoC.condD rfl (fun h48 => ?_) (fun h48 => ?_)
 replace H := ite_t h48 H
 refine GoC.region ?_
 refine GoO.pure (ps_move rfl rfl) ?_
 refine GoO.pure (ps_move rfl rfl) ?_
 refine GoO.pure (ps_indexAddrR rfl rfl c47 rfl) ?_
 refine GoO.pure (ps_loadR rfl (idx_lt c47) rfl rfl) ?_
 refine GoO.pure (ps_assign rfl rfl) ?_
 refine GoO.pure (ps_assign rfl rfl) ?_
 refine GoO.nil ?_
 cases H
 exact GoK.meet ⟨rfl, rfl⟩ (EnvD.eq rfl (EnvD.eq rfl (EnvD.eq rfl (EnvD.eq rfl (EnvD.eq rfl (EnvD.eq rfl (EnvD.nil))))))) (TkD.nil _)
 replace H := ite_f h48 H
 refine GoC.skip ?_
 cases H
 exact GoK.meet ⟨rfl, rfl⟩ (EnvD.eq rfl (EnvD.eq rfl (EnvD.eq rfl (EnvD.eq rfl (EnvD.eq rfl (EnvD.eq rfl (EnvD.nil))))))) (TkD.nil _)
 replace H := itb_t h46 H
 refine GoO.guardF rfl rfl rfl rfl ?_
 refine GoO.guardF rfl rfl rfl rfl ?_
 refine GoO.guardF rfl rfl rfl rfl ?_
 refine GoO.guardF rfl rfl rfl rfl ?_
 refine GoO.guardF rfl rfl rfl rfl ?_
 refine GoO.pure (ps_pickT rfl rfl rfl) ?_
 refine GoO.nil ?_
 refine GoK.code ?_
 refine GoC.condT rfl ?_
 refine GoC.region ?_
 refine GoO.pure (ps_move rfl rfl) ?_
 refine GoO.pure (ps_move rfl rfl) ?_
 have c49 := ck_l H; replace H := ck_r H
 refine GoO.pure (ps_indexAddrR rfl rfl c49 rfl) ?_
 refine GoO.pure (ps_loadR rfl (idx_lt c49) rfl rfl) ?_
 refine GoO.pure (ps_assign rfl rfl) ?_
 refine GoO.pure (ps_assign rfl rfl) ?_
 refine GoO.nil ?_
 cases H
 exact GoK.meet ⟨rfl, rfl⟩ (EnvD.eq rfl (EnvD.eq rfl (EnvD.eq rfl (EnvD.eq rfl (EnvD.eq rfl (EnvD.eq rfl (EnvD.nil))))))) (TkD.nil _)
 rintro v h ⟨rfl, rfl⟩
 have H := HK44; clear HK44
 refine GoC.region ?_
 refine GoO.pure (ps_move rfl rfl) ?_
 refine GoO.pure (ps_move rfl rfl) ?_
 have c50 := ck_l H; replace H := ck_r H
 refine GoO.pure (ps_indexAddrR rfl rfl c50 rfl) ?_
 refine GoO.pure (ps_loadR rfl (idx_lt c50) rfl rfl) ?_
 refine GoO.pure (ps_assign rfl rfl) ?_
 refine GoO.nil ?_
 refine GoK.blk ?_
 obtain rfl := Option.some.inj H
 exact GoK.againJ m35' (by omega) ⟨_, _, _, _, hF29, rfl, rfl⟩ (EnvD.eq rfl (EnvD.eq rfl (EnvD.eq rfl (EnvD.eq rfl (EnvD.eq rfl (EnvD.eq rfl (EnvD.nil))))))) (TkD.nil _)
 replace H := ite_f h36 H
 refine GoC.exit rfl ?_
 obtain rfl := Option.some.inj H
 obtain rfl := Option.some.inj hF29
 exact GoK.meet ⟨_, _, _, _, rfl, rfl, rfl⟩ (EnvD.eq rfl (EnvD.nil)) (TkD.nil _)
 rintro v h ⟨x31, x32, x33, b34, rfl, rfl, rfl⟩
 have H := HK28; clear HK28
 refine GoK.code ?_
 refine GoC.seq ?_
 refine GoC.region ?_
 refine GoO.pure (ps_move rfl rfl) ?_
 refine GoO.pure (ps_assign rfl rfl) ?_
 refine GoO.pure (ps_assign rfl rfl) ?_
 refine GoO.nil ?_
 refine GoK.code ?_
 obtain rfl := Option.some.inj H
 exact GoC.retL (ds := [.v (.int .i64 x33), .v (.int .i64 0)]) Try.results23 (ResL.cons (ResD.tmp rfl) (ResL.cons (ResD.tmp rfl) (ResL.nil))) (Take.nil _) ⟨rfl, rfl⟩
 replace H := ite_t h21 H
 refine GoO.guardF rfl rfl rfl rfl ?_
 refine GoO.guardF rfl rfl rfl rfl ?_
 refine GoO.pure (ps_pickT rfl rfl rfl) ?_
 refine GoO.nil ?_
 refine GoK.code ?_
 refine GoC.condT rfl ?_
 refine GoC.seq ?_
 refine GoC.region ?_
 refine GoO.pure (ps_assign rfl rfl) ?_
 refine GoO.pure (ps_assign rfl rfl) ?_
 refine GoO.nil ?_
 refine GoK.code ?_
 obtain rfl := Option.some.inj H
 exact GoC.retL (ds := [.v (.int .i64 0), .v (.int .i64 4)]) Try.results23 (ResL.cons (ResD.tmp rfl) (ResL.cons (ResD.tmp rfl) (ResL.nil))) (Take.nil _) ⟨rfl, rfl⟩
 replace H := ite_t h20 H
 refine GoO.guardF rfl rfl rfl rfl ?_
 refine GoO.pure (ps_pickT rfl rfl rfl) ?_
 refine GoO.pure (ps_move rfl rfl) ?_
 refine GoO.guardF rfl rfl rfl rfl ?_
 refine GoO.guardF rfl rfl rfl rfl ?_
 refine GoO.guardF rfl rfl rfl rfl ?_
 refine GoO.pure (ps_pickT rfl rfl rfl) ?_
 refine GoO.nil ?_
 refine GoK.code ?_
 refine GoC.condT rfl ?_
 refine GoC.seq ?_
 refine GoC.region ?_
 refine GoO.pure (ps_assign rfl rfl) ?_
 refine GoO.pure (ps_assign rfl rfl) ?_
 refine GoO.nil ?_
 refine GoK.code ?_
 obtain rfl := Option.some.inj H
 exact GoC.retL (ds := [.v (.int .i64 0), .v (.int .i64 4)]) Try.results23 (ResL.cons (ResD.tmp rfl) (ResL.cons (ResD.tmp rfl) (ResL.nil))) (Take.nil _) ⟨rfl, rfl⟩
 replace H := ite_t h19 H
 refine GoO.guardF rfl rfl rfl rfl ?_
 refine GoO.guardF rfl rfl rfl rfl ?_
 refine GoO.pure (ps_pickT rfl rfl rfl) ?_
 refine GoO.pure (ps_move rfl rfl) ?_
 refine GoO.guardF rfl rfl rfl rfl ?_
 refine GoO.guardF rfl rfl rfl rfl ?_
 refine GoO.pure (ps_pickT rfl rfl rfl) ?_
 refine GoO.pure (ps_move rfl rfl) ?_
 refine GoO.guardF rfl rfl rfl rfl ?_
 refine GoO.guardF rfl rfl rfl rfl ?_
 refine GoO.guardF rfl rfl rfl rfl ?_
 refine GoO.pure (ps_pickT rfl rfl rfl) ?_
 refine GoO.nil ?_
 refine GoK.code ?_
 refine GoC.condT rfl ?_
 refine GoC.seq ?_
 refine GoC.region ?_
 refine GoO.pure (ps_assign rfl rfl) ?_
 refine GoO.pure (ps_assign rfl rfl) ?_
 refine GoO.nil ?_
 refine GoK.code ?_
 obtain rfl := Option.some.inj H
 exact GoC.retL (ds := [.v (.int .i64 0), .v (.int .i64 4)]) Try.results23 (ResL.cons (ResD.tmp rfl) (ResL.cons (ResD.tmp rfl) (ResL.nil))) (Take.nil _) ⟨rfl, rfl⟩
 replace H := ite_t h2 H
 refine GoO.guardF rfl rfl rfl rfl ?_
 refine GoO.pure (ps_pickT rfl rfl rfl) ?_
 refine GoO.nil ?_
 refine GoK.code ?_
 refine GoC.condT rfl ?_
 refine GoC.seq ?_
 refine GoC.region ?_
 refine GoO.pure (ps_assign rfl rfl) ?_
 refine GoO.pure (ps_assign rfl rfl) ?_
 refine GoO.nil ?_
 refine GoK.code ?_
 obtain rfl := Option.some.inj H
 exact GoC.retL (ds := [.v (.int .i64 0), .v (.int .i64 2)]) Try.results23 (ResL.cons (ResD.tmp rfl) (ResL.cons (ResD.tmp rfl) (ResL.nil))) (Take.nil _) ⟨rfl, rfl⟩

end Go.Proofs.Ytkpdkigkhbkfiaa
