/- The functions pairs.Check, pairs.both, pairs.Part, told as plain functions, and that the code does as they say. -/
import Derived.Test.YtdpkdicciclobaaTys
import Derived.Test.YtdpkdicciclobaaDat
import Derived.Test.YtdpkdicciclobaaGcut
import Derived.Test.YtdpkdicciclobaaGgraph
namespace Go.Proofs.Ytdpkdicciclobaa
open Go Go.Proofs.Ytdpkdicciclobaa.Sx
set_option linter.unusedVariables false
set_option linter.unusedSimpArgs false
def pairs_Check_F (g : Graph) : Option (Int) :=
 (graph_Check_F g).bind fun r2 =>
 if r2 ≠ 0 then
  some r2
 else
  if 30 < ((g.as.length : Nat) : Int) then
   some 2
  else
   some 0
def pairs_Check_P (out : Int) (d : D) (H : List HL) : Prop := d = .v (.int .i64 out) ∧ H = []
theorem pairs_Check_I (out : Int) : IndepP (pairs_Check_P out) := IndepP.of (by rintro _ _ ⟨rfl, rfl⟩; exact ⟨inferInstance, inferInstance⟩)
set_option maxRecDepth 100000 in
set_option maxHeartbeats 4000000 in
theorem pairs_Check_spec (g : Graph) {out : Int} (H : pairs_Check_F g = some out) : Does Try.prog 79 [.ag 2 (nth [.v (.int .i64 g.n), slD g.as])] [] (pairs_Check_P out) := by
 unfold pairs_Check_F at H
 refine Does.intro Try.func79 rfl Try.ntmps79 rfl fun w0 I0 => ?_
 refine GoC.seq ?_
 refine GoC.region ?_
 refine GoO.effB (ef_boxAg rfl rfl) (fun β1 => ?_)
 refine GoO.pure (ps_assign rfl rfl) ?_
 refine GoO.nil ?_
 refine GoK.code ?_
 refine GoC.seq ?_
 refine GoC.seq ?_
 refine GoC.region ?_
 refine GoO.pure (ps_loadAg rfl At.p0 At.p0 Nat.zero_lt_one rfl rfl) ?_
 have hb := bind_l H; clear H
 obtain ⟨r2, e3, H⟩ := hb
 refine GoO.effC (ef_call rfl (Take.nil _) (Take.nil _) (graph_Check_spec g e3) (LendL.cons (Lend.agA ⟨⟨trivial, Lend.refl _ _⟩, Lend.refl _ _⟩) (LendL.nil)) rfl (graph_Check_I (r2))) (fun rr HH hp => ?_)
 obtain ⟨rfl, rfl⟩ := hp
 refine GoO.pure (ps_assign rfl rfl) ?_
 refine GoO.nil ?_
 refine GoK.code ?_
 refine GoC.seq ?_
 refine GoC.region ?_
 refine GoO.pure (ps_move rfl rfl) ?_
 refine GoO.pure (ps_neq rfl rfl rfl) ?_
 refine GoO.nil ?_
 refine GoK.code ?_
 refine GoC.condD rfl (fun h4 => ?_) (fun h4 => ?_)
 replace H := ite_t h4 H
 refine GoC.seq ?_
 refine GoC.region ?_
 refine GoO.pure (ps_move rfl rfl) ?_
 refine GoO.pure (ps_assign rfl rfl) ?_
 refine GoO.nil ?_
 refine GoK.code ?_
 obtain rfl := Option.some.inj H
 exact GoC.retL (ds := [.v (.int .i64 r2)]) Try.results79 (ResL.cons (ResD.tmp rfl) (ResL.nil)) (Take.nil _) ⟨rfl, rfl⟩
 replace H := ite_f h4 H
 refine GoC.skip ?_
 refine GoK.code ?_
 refine GoC.seq ?_
 refine GoC.seq ?_
 refine GoC.region ?_
 refine GoO.pure (ps_fieldAddr rfl rfl) ?_
 refine GoO.pure (ps_load rfl At.p0 At.p0 Nat.zero_lt_one rfl rfl) ?_
 refine GoO.pure (ps_len rfl (by constructor) rfl) ?_
 refine GoO.lenLe (n := g.as.length) (x := .tmp 10) rfl (by constructor) sl_lenLe (fun ml5 => ?_)
 refine GoO.pure (ps_gtr rfl rfl rfl) ?_
 refine GoO.nil ?_
 refine GoK.code ?_
 refine GoC.condD rfl (fun h6 => ?_) (fun h6 => ?_)
 replace H := ite_t h6 H
 refine GoC.seq ?_
 refine GoC.region ?_
 refine GoO.pure (ps_assign rfl rfl) ?_
 refine GoO.nil ?_
 refine GoK.code ?_
 obtain rfl := Option.some.inj H
 exact GoC.retL (ds := [.v (.int .i64 2)]) Try.results79 (ResL.cons (ResD.tmp rfl) (ResL.nil)) (Take.nil _) ⟨rfl, rfl⟩
 replace H := ite_f h6 H
 refine GoC.skip ?_
 refine GoK.code ?_
 refine GoC.seq ?_
 refine GoC.region ?_
 refine GoO.pure (ps_assign rfl rfl) ?_
 refine GoO.nil ?_
 refine GoK.code ?_
 obtain rfl := Option.some.inj H
 exact GoC.retL (ds := [.v (.int .i64 0)]) Try.results79 (ResL.cons (ResD.tmp rfl) (ResL.nil)) (Take.nil _) ⟨rfl, rfl⟩

def pairs_both_B1 (g : Graph) (t : Int) : Nat → (List Arc) → Option ((List Arc)) := fun k11 l6 =>
 ck (l6.length + 2 ≤ 5864062014805) <|
 some (l6 ++ ([(g.as.getD k11 El.d), (⟨(g.as.getD k11 El.d).t, (g.as.getD k11 El.d).f, (g.as.getD k11 El.d).c⟩ : Arc)] : List Arc))
def pairs_both_F (g : Graph) (s : Int) (t : Int) : Option (Net) :=
 (forN (pairs_both_B1 g t) g.as.length 0 []).bind fun l10 =>
 some (⟨g.n, s, t, l10⟩ : Net)
def pairs_both_P (out : Net) (d : D) (H : List HL) : Prop := ∃ β1 : BK, d = .ag 4 (nth [.v (.int .i64 out.n), .v (.int .i64 out.s), .v (.int .i64 out.t), .own β1 3 0 out.as.length]) ∧ H = [.one β1 39 3 (row out.as)]
theorem pairs_both_I (out : Net) : IndepP (pairs_both_P out) := IndepP.of (by rintro _ _ ⟨β1, rfl, rfl⟩; exact ⟨inferInstance, inferInstance⟩)
set_option maxRecDepth 100000 in
set_option maxHeartbeats 4000000 in
theorem pairs_both_spec (g : Graph) (s : Int) (t : Int) {out : Net} (H : pairs_both_F g s t = some out) : Does Try.prog 81 [.ag 2 (nth [.v (.int .i64 g.n), slD g.as]), .v (.int .i64 s), .v (.int .i64 t)] [] (pairs_both_P out) := by
 unfold pairs_both_F at H
 refine Does.intro Try.func81 rfl Try.ntmps81 rfl fun w0 I0 => ?_
 refine GoC.seq ?_
 refine GoC.region ?_
 refine GoO.effB (ef_boxAg rfl rfl) (fun β1 => ?_)
 refine GoO.effB (ef_alloc rfl) (fun β2 => ?_)
 refine GoO.nil ?_
 refine GoK.code ?_
 refine GoC.seq ?_
 refine GoC.region ?_
 refine GoO.pure (ps_fieldAddr rfl rfl) ?_
 refine GoO.pure (ps_load rfl At.p1 At.p1 Nat.zero_lt_one rfl rfl) ?_
 refine GoO.pure (ps_move rfl rfl) ?_
 refine GoO.pure (ps_move rfl rfl) ?_
 refine GoO.pure (ps_build (Parts.cons _ _ _ _ _ _ _ _ FdP.of (Part.one _ rfl rfl) rfl rfl (Parts.cons _ _ _ _ _ _ _ _ FdP.of (Part.one _ rfl rfl) rfl rfl (Parts.cons _ _ _ _ _ _ _ _ FdP.of (Part.one _ rfl rfl) rfl rfl (Parts.nil _)))) rfl) ?_
 refine GoO.effB (ef_alloc rfl) (fun β3 => ?_)
 refine GoO.eff1 (ef_storeAg rfl rfl At.p0 upd_whole Nat.zero_lt_one rfl) ?_
 refine GoO.nil ?_
 refine GoK.code ?_
 refine GoC.seq ?_
 refine GoC.seq ?_
 refine GoC.region ?_
 refine GoO.pure (ps_fieldAddr rfl rfl) ?_
 refine GoO.pure (ps_load rfl At.p2 At.p2 Nat.zero_lt_one rfl rfl) ?_
 refine GoO.pure (ps_len rfl (by constructor) rfl) ?_
 refine GoO.lenLe (n := g.as.length) (x := .tmp 16) rfl (by constructor) sl_lenLe (fun ml4 => ?_)
 refine GoO.pure (ps_move rfl rfl) ?_
 refine GoO.nil ?_
 refine GoK.code ?_
 have hb := bind_l H; clear H
 obtain ⟨l10, hl17, HK7⟩ := hb
 refine GoC.blockJ [(6, .ptr β2 4 0 0)] [.one β2 64 4 (st1 (nth [.v (.int .i64 0), .v (.int .i64 0), .v (.int .i64 0), .v (.slice none 0 0)])), .one β1 33 2 (st1 (nth [.v (.int .i64 g.n), slD g.as]))] (fun v h => ∃ (β5 : BK), v = [(7, .ptr β3 4 0 0)] ∧ h = [.one β5 39 3 (row l10), .one β3 64 4 (st1 (nth [.v (.int .i64 g.n), .v (.int .i64 s), .v (.int .i64 t), .own β5 3 0 l10.length]))]) ?_ ?_
 refine GoC.loopJ [(6, _), (16, _), (17, _)] [.one β2 64 4 (st1 (nth [.v (.int .i64 0), .v (.int .i64 0), .v (.int .i64 0), .v (.slice none 0 0)])), .one β1 33 2 (st1 (nth [.v (.int .i64 g.n), slD g.as]))] (fun mQ v h => ∃ (k11 : Nat) (l6 : (List Arc)) (β5 : BK), (k11 + mQ = g.as.length ∧ forN (pairs_both_B1 g t) mQ k11 l6 = some l10) ∧ v = [(18, .v (.int .i64 ((k11 : Nat) : Int))), (7, .ptr β3 4 0 0)] ∧ h = [.one β5 39 3 (row l6), .one β3 64 4 (st1 (nth [.v (.int .i64 g.n), .v (.int .i64 s), .v (.int .i64 t), .own β5 3 0 l6.length]))]) g.as.length ⟨_, _, ⟨0, 0, 0⟩, ⟨by omega, hl17⟩, rfl, rfl⟩ (EnvD.eq rfl (EnvD.eq rfl (EnvD.eq rfl (EnvD.eq rfl (EnvD.eq rfl (EnvD.nil)))))) (TkD.no _ _ _ _ _ rfl (TkD.cons _ _ _ _ _ Rem.p0 (HLe.st ⟨⟨⟨⟨trivial, DLe.refl _⟩, DLe.refl _⟩, DLe.refl _⟩, DLe.nilOwn⟩) (TkD.cons _ _ _ _ _ Rem.p0 (HLe.st ⟨⟨⟨⟨trivial, DLe.refl _⟩, DLe.refl _⟩, DLe.refl _⟩, DLe.refl _⟩) (TkD.cons _ _ _ _ _ Rem.p0 (HLe.st ⟨⟨trivial, DLe.refl _⟩, DLe.refl _⟩) (TkD.nil _))))) ?_
 rintro m12 v h ⟨k11, l6, β5, ⟨hkk11, hF8⟩, rfl, rfl⟩
 refine GoC.seq ?_
 refine GoC.region ?_
 refine GoO.pure (ps_lss rfl rfl rfl) ?_
 refine GoO.nil ?_
 refine GoK.code ?_
 refine GoC.seq ?_
 refine GoC.condD rfl (fun (hk11 : (k11 : Int) < ((g.as.length : Nat) : Int)) => ?_) (fun (hk11 : ¬ (k11 : Int) < ((g.as.length : Nat) : Int)) => ?_)
 obtain ⟨m12', rfl⟩ : ∃ x, m12 = x + 1 := ⟨m12 - 1, by omega⟩
 have hb := bind_l hF8; clear hF8
 obtain ⟨qrm12, H, hF8⟩ := hb
 have hnk11 : k11 < g.as.length := by omega
 have hIk11 : InI ((k11 : Int) + 1) := inI_len hk11 ml4
 refine GoC.skip ?_
 refine GoK.code ?_
 refine GoC.seq ?_
 refine GoC.block ?_
 refine GoC.seq ?_
 refine GoC.region ?_
 refine GoO.pure (ps_indexAddrRN rfl rfl hnk11 rfl) ?_
 refine GoO.pure (ps_loadAgR rfl hnk11 rfl rfl) ?_
 refine GoO.effB (ef_alloc rfl) (fun β13 => ?_)
 refine GoO.eff1 (ef_storeAg rfl rfl At.p0 upd_whole Nat.zero_lt_one rfl) ?_
 refine GoO.nil ?_
 refine GoK.code ?_
 refine GoC.region ?_
 refine GoO.pure (ps_fieldAddr rfl rfl) ?_
 refine GoO.pure (ps_load rfl At.p2 At.p2 Nat.zero_lt_one rfl rfl) ?_
 refine GoO.pure (ps_loadAg rfl At.p0 At.p0 Nat.zero_lt_one rfl rfl) ?_
 refine GoO.pure (ps_fieldAddr rfl rfl) ?_
 refine GoO.pure (ps_load rfl At.p0 At.p0 Nat.zero_lt_one rfl rfl) ?_
 refine GoO.pure (ps_fieldAddr rfl rfl) ?_
 refine GoO.pure (ps_load rfl At.p0 At.p0 Nat.zero_lt_one rfl rfl) ?_
 refine GoO.pure (ps_fieldAddr rfl rfl) ?_
 refine GoO.pure (ps_load rfl At.p0 At.p0 Nat.zero_lt_one rfl rfl) ?_
 refine GoO.pure (ps_build (Parts.cons _ _ _ _ _ _ _ _ FdP.of (Part.one _ rfl rfl) rfl rfl (Parts.cons _ _ _ _ _ _ _ _ FdP.of (Part.one _ rfl rfl) rfl rfl (Parts.cons _ _ _ _ _ _ _ _ FdP.of (Part.one _ rfl rfl) rfl rfl (Parts.nil _)))) rfl) ?_
 refine GoO.effB (ef_buildSlice (row ([(g.as.getD k11 El.d), (⟨(g.as.getD k11 El.d).t, (g.as.getD k11 El.d).f, (g.as.getD k11 El.d).c⟩ : Arc)] : List Arc)) rfl (Parts.cons _ _ _ _ _ _ _ _ ⟨rfl, rfl⟩ (Part.ag _ _ rfl) rfl rfl (Parts.cons _ _ _ _ _ _ _ _ ⟨rfl, rfl⟩ (Part.ag _ _ rfl) rfl rfl (Parts.nil _))) rfl rfl rfl rfl) (fun β14 => ?_)
 have c16 := ck_l H; replace H := ck_r H
 refine GoO.effB (ef_append rfl rfl Rem.p2 (Src.own At.p0 (by first | omega | (simp only [subl_length, cpl_length, List.length_set, List.length_append, List.length_cons, List.length_nil, List.length_replicate, row_len]; omega) | (simp only [subl_length, cpl_length, List.length_set, List.length_append, List.length_cons, List.length_nil, List.length_replicate, row_len]; done))) (cat_row (α := Arc) (by first | rfl | omega | (simp only [subl_length, cpl_length, List.length_set, List.length_append, List.length_cons, List.length_nil, List.length_replicate, row_len] <;> first | rfl | omega)) (by first | rfl | omega | (simp only [subl_length, cpl_length, List.length_set, List.length_append, List.length_cons, List.length_nil, List.length_replicate, row_len] <;> first | rfl | omega)) (fun _ _ _ _ => rfl)) (by first | omega | (simp only [subl_length, cpl_length, List.length_set, List.length_append, List.length_cons, List.length_nil, List.length_replicate, row_len]; omega) | (simp only [subl_length, cpl_length, List.length_set, List.length_append, List.length_cons, List.length_nil, List.length_replicate, row_len]; done)) (app_le c16 rfl) rfl rfl rfl) (fun β15 => ?_)
 refine GoO.pure (ps_fieldAddr rfl rfl) ?_
 refine GoO.eff1 (ef_store rfl rfl rfl At.p3 upd_st1 Nat.zero_lt_one rfl) ?_
 refine GoO.nil ?_
 refine GoK.blk ?_
 refine GoK.code ?_
 refine GoC.region ?_
 refine GoO.pure (ps_add rfl rfl rfl hIk11) ?_
 refine GoO.pure (ps_move rfl rfl) ?_
 refine GoO.nil ?_
 obtain rfl := Option.some.inj H
 exact GoK.againJ m12' (by omega) ⟨_, _, β15, ⟨by omega, hF8⟩, rfl, rfl⟩ (EnvD.eq rfl (EnvD.eq rfl (EnvD.eq rfl (EnvD.eq rfl (EnvD.eq rfl (EnvD.nil)))))) (TkD.cons _ _ _ _ _ Rem.p0 (HLe.refl _) (TkD.cons _ _ _ _ _ Rem.p2 (HLe.st ⟨⟨⟨⟨trivial, DLe.refl _⟩, DLe.refl _⟩, DLe.refl _⟩, DLe.len (by first | rfl | omega | (simp only [row_len, gridC_len, rowO_len, List.length_append, List.length_cons, List.length_nil] <;> first | rfl | omega))⟩) (TkD.cons _ _ _ _ _ Rem.p2 (HLe.st ⟨⟨⟨⟨trivial, DLe.refl _⟩, DLe.refl _⟩, DLe.refl _⟩, DLe.refl _⟩) (TkD.cons _ _ _ _ _ Rem.p2 (HLe.st ⟨⟨trivial, DLe.refl _⟩, DLe.refl _⟩) (TkD.nil _)))))
 obtain rfl : m12 = 0 := by omega
 refine GoC.exit rfl ?_
 cases hF8
 exact GoK.meet ⟨β5, rfl, rfl⟩ (EnvD.eq rfl (EnvD.eq rfl (EnvD.nil))) (TkD.cons _ _ _ _ _ Rem.p0 (HLe.refl _) (TkD.cons _ _ _ _ _ Rem.p0 (HLe.st ⟨⟨⟨⟨trivial, DLe.refl _⟩, DLe.refl _⟩, DLe.refl _⟩, DLe.len (by first | rfl | omega | (simp only [row_len, gridC_len, rowO_len] <;> first | rfl | omega))⟩) (TkD.cons _ _ _ _ _ Rem.p0 (HLe.st ⟨⟨⟨⟨trivial, DLe.refl _⟩, DLe.refl _⟩, DLe.refl _⟩, DLe.refl _⟩) (TkD.cons _ _ _ _ _ Rem.p0 (HLe.st ⟨⟨trivial, DLe.refl _⟩, DLe.refl _⟩) (TkD.nil _)))))
 rintro v h ⟨β5, rfl, rfl⟩
 have H := HK7; clear HK7
 refine GoK.code ?_
 refine GoC.seq ?_
 refine GoC.region ?_
 refine GoO.pure (ps_loadAg rfl At.p1 At.p1 Nat.zero_lt_one rfl rfl) ?_
 refine GoO.eff1 (ef_storeAg rfl rfl At.p2 upd_whole Nat.zero_lt_one rfl) ?_
 refine GoO.nil ?_
 refine GoK.code ?_
 obtain rfl := Option.some.inj H
 exact GoC.retL (ds := [.ag 4 (nth [.v (.int .i64 g.n), .v (.int .i64 s), .v (.int .i64 t), .own β5 3 0 l10.length])]) Try.results81 (ResL.cons (ResD.le (ResD.cellAg rfl At.p2 Nat.zero_lt_one rfl) (by exact DLe.ag ⟨⟨⟨⟨trivial, DLe.refl _⟩, DLe.refl _⟩, DLe.refl _⟩, DLe.refl _⟩)) (ResL.nil)) (Take.cons _ _ _ _ _ Rem.p0 (Take.nil _)) ⟨β5, rfl, rfl⟩

def pairs_Part_F (g : Graph) (s : Int) (t : Int) : Option (Int × Int) :=
 (pairs_Check_F g).bind fun r2 =>
 if r2 ≠ 0 then
  some (0, r2)
 else
  (pairs_both_F g s t).bind fun r5 =>
  (cut_Least_F r5).bind fun (r8, r9, r10) =>
  some (r9, r10)
def pairs_Part_P (out : Int × Int) (d : D) (H : List HL) : Prop := d = .tp 2 (nth [.v (.int .i64 out.1), .v (.int .i64 out.2)]) ∧ H = []
theorem pairs_Part_I (out : Int × Int) : IndepP (pairs_Part_P out) := IndepP.of (by rintro _ _ ⟨rfl, rfl⟩; exact ⟨inferInstance, inferInstance⟩)
set_option maxRecDepth 100000 in
set_option maxHeartbeats 4000000 in
theorem pairs_Part_spec (g : Graph) (s : Int) (t : Int) {out : Int × Int} (H : pairs_Part_F g s t = some out) : Does Try.prog 48 [.ag 2 (nth [.v (.int .i64 g.n), slD g.as]), .v (.int .i64 s), .v (.int .i64 t)] [] (pairs_Part_P out) := by
 unfold pairs_Part_F at H
 refine Does.intro Try.func48 rfl Try.ntmps48 rfl fun w0 I0 => ?_
 refine GoC.seq ?_
 refine GoC.region ?_
 refine GoO.effB (ef_boxAg rfl rfl) (fun β1 => ?_)
 refine GoO.pure (ps_assign rfl rfl) ?_
 refine GoO.pure (ps_assign rfl rfl) ?_
 refine GoO.nil ?_
 refine GoK.code ?_
 refine GoC.seq ?_
 refine GoC.seq ?_
 refine GoC.region ?_
 refine GoO.pure (ps_loadAg rfl At.p0 At.p0 Nat.zero_lt_one rfl rfl) ?_
 have hb := bind_l H; clear H
 obtain ⟨r2, e3, H⟩ := hb
 refine GoO.effC (ef_call rfl (Take.nil _) (Take.nil _) (pairs_Check_spec g e3) (LendL.cons (Lend.agA ⟨⟨trivial, Lend.refl _ _⟩, Lend.refl _ _⟩) (LendL.nil)) rfl (pairs_Check_I (r2))) (fun rr HH hp => ?_)
 obtain ⟨rfl, rfl⟩ := hp
 refine GoO.pure (ps_assign rfl rfl) ?_
 refine GoO.nil ?_
 refine GoK.code ?_
 refine GoC.seq ?_
 refine GoC.region ?_
 refine GoO.pure (ps_move rfl rfl) ?_
 refine GoO.pure (ps_neq rfl rfl rfl) ?_
 refine GoO.nil ?_
 refine GoK.code ?_
 refine GoC.condD rfl (fun h4 => ?_) (fun h4 => ?_)
 replace H := ite_t h4 H
 refine GoC.seq ?_
 refine GoC.region ?_
 refine GoO.pure (ps_move rfl rfl) ?_
 refine GoO.pure (ps_assign rfl rfl) ?_
 refine GoO.pure (ps_assign rfl rfl) ?_
 refine GoO.nil ?_
 refine GoK.code ?_
 obtain rfl := Option.some.inj H
 exact GoC.retL (ds := [.v (.int .i64 0), .v (.int .i64 r2)]) Try.results48 (ResL.cons (ResD.tmp rfl) (ResL.cons (ResD.tmp rfl) (ResL.nil))) (Take.nil _) ⟨rfl, rfl⟩
 replace H := ite_f h4 H
 refine GoC.skip ?_
 refine GoK.code ?_
 refine GoC.seq ?_
 refine GoC.region ?_
 refine GoO.pure (ps_loadAg rfl At.p0 At.p0 Nat.zero_lt_one rfl rfl) ?_
 refine GoO.pure (ps_move rfl rfl) ?_
 refine GoO.pure (ps_move rfl rfl) ?_
 have hb := bind_l H; clear H
 obtain ⟨r5, e7, H⟩ := hb
 refine GoO.effC (ef_call rfl (Take.nil _) (Take.nil _) (pairs_both_spec g s t e7) (LendL.cons (Lend.agA ⟨⟨trivial, Lend.refl _ _⟩, Lend.refl _ _⟩) (LendL.cons (Lend.refl _ _) (LendL.cons (Lend.refl _ _) (LendL.nil)))) rfl (pairs_both_I (r5))) (fun rr HH hp => ?_)
 obtain ⟨β6, rfl, rfl⟩ := hp
 have hb := bind_l H; clear H
 obtain ⟨⟨r8, r9, r10⟩, e11, H⟩ := hb
 refine GoO.effC (ef_call rfl (Take.nil _) (Take.cons _ _ _ _ _ Rem.p0 (Take.nil _)) (cut_Least_spec r5 e11) (LendL.cons (Lend.agA ⟨⟨⟨⟨trivial, Lend.refl _ _⟩, Lend.refl _ _⟩, Lend.refl _ _⟩, Lend.all' At.p0 (by first | rfl | omega | (simp only [subl_length, cpl_length, List.length_set, List.length_append, List.length_cons, List.length_nil, List.length_replicate, row_len] <;> first | rfl | omega)) rfl⟩) (LendL.nil)) rfl (cut_Least_I (r8, r9, r10))) (fun rr HH hp => ?_)
 obtain ⟨rfl, rfl⟩ := hp
 refine GoO.pure (ps_move rfl rfl) ?_
 refine GoO.pure (ps_extract rfl rfl rfl) ?_
 refine GoO.pure (ps_extract rfl rfl rfl) ?_
 refine GoO.pure (ps_extract rfl rfl rfl) ?_
 refine GoO.pure (ps_assign rfl rfl) ?_
 refine GoO.pure (ps_assign rfl rfl) ?_
 refine GoO.pure (ps_assign rfl rfl) ?_
 refine GoO.nil ?_
 refine GoK.code ?_
 refine GoC.seq ?_
 refine GoC.region ?_
 refine GoO.pure (ps_move rfl rfl) ?_
 refine GoO.pure (ps_move rfl rfl) ?_
 refine GoO.pure (ps_assign rfl rfl) ?_
 refine GoO.pure (ps_assign rfl rfl) ?_
 refine GoO.nil ?_
 refine GoK.code ?_
 obtain rfl := Option.some.inj H
 exact GoC.retL (ds := [.v (.int .i64 r9), .v (.int .i64 r10)]) Try.results48 (ResL.cons (ResD.tmp rfl) (ResL.cons (ResD.tmp rfl) (ResL.nil))) (Take.nil _) ⟨rfl, rfl⟩

end Go.Proofs.Ytdpkdicciclobaa
