/- The functions weirref.Both, weirref.Ways, weirref.Joined, weirref.Odd, weirref.Ones, told as plain functions, and that the code does as they say. -/
import Derived.Test.YtdpkdicciclobaaTys
import Derived.Test.YtdpkdicciclobaaDat
import Derived.Test.YtdpkdicciclobaaGslices
namespace Go.Proofs.Ytdpkdicciclobaa
open Go Go.Proofs.Ytdpkdicciclobaa.Sx
set_option linter.unusedVariables false
set_option linter.unusedSimpArgs false
def weirref_Both_B1 (g : Graph) : Nat → (List Arc) → Option ((List Arc)) := fun k16 l11 =>
 ck (l11.length + 1 ≤ 5864062014805) <|
 some (l11 ++ ([(⟨(g.as.getD k16 El.d).t, (g.as.getD k16 El.d).f, (g.as.getD k16 El.d).c⟩ : Arc)] : List Arc))
def weirref_Both_F (g : Graph) : Option (Graph) :=
 (slices_Clone_Arc_F g.as).bind fun r3 =>
 (forN (weirref_Both_B1 g) g.as.length 0 r3).bind fun l15 =>
 some (⟨g.n, l15⟩ : Graph)
def weirref_Both_P (out : Graph) (d : D) (H : List HL) : Prop := ∃ β1 : BK, d = .ag 2 (nth [.v (.int .i64 out.n), .own β1 3 0 out.as.length]) ∧ H = [.one β1 39 3 (row out.as)]
theorem weirref_Both_I (out : Graph) : IndepP (weirref_Both_P out) := IndepP.of (by rintro _ _ ⟨β1, rfl, rfl⟩; exact ⟨inferInstance, inferInstance⟩)
set_option maxRecDepth 100000 in
set_option maxHeartbeats 4000000 in
theorem weirref_Both_spec (g : Graph) {out : Graph} (H : weirref_Both_F g = some out) : Does Try.prog 86 [.ag 2 (nth [.v (.int .i64 g.n), slD g.as])] [] (weirref_Both_P out) := by
 unfold weirref_Both_F at H
 refine Does.intro Try.func86 rfl Try.ntmps86 rfl fun w0 I0 => ?_
 refine GoC.seq ?_
 refine GoC.region ?_
 refine GoO.effB (ef_boxAg rfl rfl) (fun β1 => ?_)
 refine GoO.effB (ef_alloc rfl) (fun β2 => ?_)
 refine GoO.nil ?_
 refine GoK.code ?_
 refine GoC.seq ?_
 refine GoC.drawA (.q 0 (.q 1 (.q 2 (.q 3 (.two 4 6 (.q 5 (.one 6 (.one 7 (.done)))) (.one 4 (.q 5 (.one 7 (.done))))))))) follows (by kernel_rfl) ?_
 refine GoP.qN rfl (ps_fieldAddr rfl rfl) ?_
 refine GoP.qN rfl (ps_load rfl At.p1 At.p1 Nat.zero_lt_one rfl rfl) ?_
 refine GoP.qN rfl (ps_fieldAddr rfl rfl) ?_
 refine GoP.qN rfl (ps_load rfl At.p1 At.p1 Nat.zero_lt_one rfl rfl) ?_
 have hb := bind_l H; clear H
 obtain ⟨r3, e5, H⟩ := hb
 apply GoP.fork2
 exact rfl
 exact rfl
 exact trivial
 exact trivial
 exact ef_call rfl (Take.nil _) (Take.nil _) (slices_Clone_Arc_spec g.as e5) (LendL.cons (Lend.refl _ _) (LendL.nil)) rfl (slices_Clone_Arc_I (r3))
 exact ef_alloc rfl
 exact (Take.cons _ _ _ _ _ Rem.p0 (Take.cons _ _ _ _ _ Rem.p0 (Take.nil _)))
 exact (Take.cons _ _ _ _ _ Rem.p0 (Take.cons _ _ _ _ _ Rem.p0 (Take.nil _)))
 intro hQ
 rintro _ ⟨_, _, hp, rfl⟩
 obtain ⟨β4, rfl, rfl⟩ := hp
 refine GoP.qN rfl (ps_build (Parts.cons _ _ _ _ _ _ _ _ FdP.of (Part.one _ rfl rfl) rfl rfl (Parts.cons _ _ _ _ _ _ _ _ FdP.of (Part.one _ rfl rfl) rfl rfl (Parts.nil _))) rfl) ?_
 refine GoP.oneB rfl trivial (ef_alloc rfl) (Take.cons _ _ _ _ _ Rem.p1 (Take.cons _ _ _ _ _ Rem.p1 (Take.nil _))) (fun β8 => ?_)
 refine GoP.one1 rfl trivial (ef_storeAg rfl rfl At.p0 upd_whole Nat.zero_lt_one rfl) (Take.cons _ _ _ _ _ Rem.p0 (Take.cons _ _ _ _ _ Rem.p1 (Take.cons _ _ _ _ _ Rem.p1 (Take.nil _)))) ?_
 exact GoP.done (hQ β4 β8)
 intro hQ
 rintro _ ⟨β7, rfl⟩
 refine GoP.oneC rfl trivial (ef_call rfl (Take.nil _) (Take.nil _) (slices_Clone_Arc_spec g.as e5) (LendL.cons (Lend.refl _ _) (LendL.nil)) rfl (slices_Clone_Arc_I (r3))) (Take.cons _ _ _ _ _ Rem.p1 (Take.cons _ _ _ _ _ Rem.p1 (Take.nil _))) (fun rr HH hp => ?_)
 obtain ⟨β4, rfl, rfl⟩ := hp
 refine GoP.qN rfl (ps_build (Parts.cons _ _ _ _ _ _ _ _ FdP.of (Part.one _ rfl rfl) rfl rfl (Parts.cons _ _ _ _ _ _ _ _ FdP.of (Part.one _ rfl rfl) rfl rfl (Parts.nil _))) rfl) ?_
 refine GoP.one1 rfl trivial (ef_storeAg rfl rfl At.p1 upd_whole Nat.zero_lt_one rfl) (Take.cons _ _ _ _ _ Rem.p1 (Take.cons _ _ _ _ _ Rem.p1 (Take.cons _ _ _ _ _ Rem.p1 (Take.nil _)))) ?_
 refine GoP.done (GoK.le ?_ (hQ β4 β7))
 refine Le.ofDW ?_ (TkD.cons _ _ _ _ _ Rem.p1 (HLe.refl _) (TkD.cons _ _ _ _ _ Rem.p0 (HLe.refl _) (TkD.cons _ _ _ _ _ Rem.p0 (HLe.refl _) (TkD.cons _ _ _ _ _ Rem.p0 (HLe.refl _) (TkD.nil _)))))
 repeat (first | exact EnvLeW.nil | refine EnvLeW.cons rfl ?_ | refine EnvLeW.skip rfl ?_)
 intro β4 β8
 refine GoK.code ?_
 refine GoC.seq ?_
 refine GoC.seq ?_
 refine GoC.region ?_
 refine GoO.pure (ps_fieldAddr rfl rfl) ?_
 refine GoO.pure (ps_load rfl At.p3 At.p3 Nat.zero_lt_one rfl rfl) ?_
 refine GoO.pure (ps_len rfl (by constructor) rfl) ?_
 refine GoO.lenLe (n := g.as.length) (x := .tmp 13) rfl (by constructor) sl_lenLe (fun ml9 => ?_)
 refine GoO.pure (ps_move rfl rfl) ?_
 refine GoO.nil ?_
 refine GoK.code ?_
 have hb := bind_l H; clear H
 obtain ⟨l15, hl22, HK12⟩ := hb
 refine GoC.blockJ [(2, .ptr β2 2 0 0)] [.one β2 33 2 (st1 (nth [.v (.int .i64 0), .v (.slice none 0 0)])), .one β1 33 2 (st1 (nth [.v (.int .i64 g.n), slD g.as]))] (fun v h => ∃ (β10 : BK), v = [(3, .ptr β8 2 0 0)] ∧ h = [.one β10 39 3 (row l15), .one β8 33 2 (st1 (nth [.v (.int .i64 g.n), .own β10 3 0 l15.length]))]) ?_ ?_
 refine GoC.loopJ [(2, _), (13, _), (14, _)] [.one β2 33 2 (st1 (nth [.v (.int .i64 0), .v (.slice none 0 0)])), .one β1 33 2 (st1 (nth [.v (.int .i64 g.n), slD g.as]))] (fun mQ v h => ∃ (k16 : Nat) (l11 : (List Arc)) (β10 : BK), (k16 + mQ = g.as.length ∧ forN (weirref_Both_B1 g) mQ k16 l11 = some l15) ∧ v = [(15, .v (.int .i64 ((k16 : Nat) : Int))), (3, .ptr β8 2 0 0)] ∧ h = [.one β10 39 3 (row l11), .one β8 33 2 (st1 (nth [.v (.int .i64 g.n), .own β10 3 0 l11.length]))]) g.as.length ⟨_, _, β4, ⟨by omega, hl22⟩, rfl, rfl⟩ (EnvD.eq rfl (EnvD.eq rfl (EnvD.eq rfl (EnvD.eq rfl (EnvD.eq rfl (EnvD.nil)))))) (TkD.cons _ _ _ _ _ Rem.p1 (HLe.refl _) (TkD.cons _ _ _ _ _ Rem.p0 (HLe.st ⟨⟨trivial, DLe.refl _⟩, DLe.len (by first | rfl | omega | (simp only [row_len, gridC_len, rowO_len] <;> first | rfl | omega))⟩) (TkD.cons _ _ _ _ _ Rem.p0 (HLe.st ⟨⟨trivial, DLe.refl _⟩, DLe.refl _⟩) (TkD.cons _ _ _ _ _ Rem.p0 (HLe.st ⟨⟨trivial, DLe.refl _⟩, DLe.refl _⟩) (TkD.nil _))))) ?_
 rintro m17 v h ⟨k16, l11, β10, ⟨hkk16, hF13⟩, rfl, rfl⟩
 refine GoC.seq ?_
 refine GoC.region ?_
 refine GoO.pure (ps_lss rfl rfl rfl) ?_
 refine GoO.nil ?_
 refine GoK.code ?_
 refine GoC.seq ?_
 refine GoC.condD rfl (fun (hk16 : (k16 : Int) < ((g.as.length : Nat) : Int)) => ?_) (fun (hk16 : ¬ (k16 : Int) < ((g.as.length : Nat) : Int)) => ?_)
 obtain ⟨m17', rfl⟩ : ∃ x, m17 = x + 1 := ⟨m17 - 1, by omega⟩
 have hb := bind_l hF13; clear hF13
 obtain ⟨qrm17, H, hF13⟩ := hb
 have hnk16 : k16 < g.as.length := by omega
 have hIk16 : InI ((k16 : Int) + 1) := inI_len hk16 ml9
 refine GoC.skip ?_
 refine GoK.code ?_
 refine GoC.seq ?_
 refine GoC.block ?_
 refine GoC.seq ?_
 refine GoC.region ?_
 refine GoO.pure (ps_indexAddrRN rfl rfl hnk16 rfl) ?_
 refine GoO.pure (ps_loadAgR rfl hnk16 rfl rfl) ?_
 refine GoO.effB (ef_alloc rfl) (fun β18 => ?_)
 refine GoO.eff1 (ef_storeAg rfl rfl At.p0 upd_whole Nat.zero_lt_one rfl) ?_
 refine GoO.nil ?_
 refine GoK.code ?_
 refine GoC.region ?_
 refine GoO.pure (ps_fieldAddr rfl rfl) ?_
 refine GoO.pure (ps_load rfl At.p2 At.p2 Nat.zero_lt_one rfl rfl) ?_
 refine GoO.pure (ps_fieldAddr rfl rfl) ?_
 refine GoO.pure (ps_load rfl At.p0 At.p0 Nat.zero_lt_one rfl rfl) ?_
 refine GoO.pure (ps_fieldAddr rfl rfl) ?_
 refine GoO.pure (ps_load rfl At.p0 At.p0 Nat.zero_lt_one rfl rfl) ?_
 refine GoO.pure (ps_fieldAddr rfl rfl) ?_
 refine GoO.pure (ps_load rfl At.p0 At.p0 Nat.zero_lt_one rfl rfl) ?_
 refine GoO.pure (ps_build (Parts.cons _ _ _ _ _ _ _ _ FdP.of (Part.one _ rfl rfl) rfl rfl (Parts.cons _ _ _ _ _ _ _ _ FdP.of (Part.one _ rfl rfl) rfl rfl (Parts.cons _ _ _ _ _ _ _ _ FdP.of (Part.one _ rfl rfl) rfl rfl (Parts.nil _)))) rfl) ?_
 refine GoO.effB (ef_buildSlice (row ([(⟨(g.as.getD k16 El.d).t, (g.as.getD k16 El.d).f, (g.as.getD k16 El.d).c⟩ : Arc)] : List Arc)) rfl (Parts.cons _ _ _ _ _ _ _ _ ⟨rfl, rfl⟩ (Part.ag _ _ rfl) rfl rfl (Parts.nil _)) rfl rfl rfl rfl) (fun β19 => ?_)
 have c21 := ck_l H; replace H := ck_r H
 refine GoO.effB (ef_append rfl rfl Rem.p2 (Src.own At.p0 (by first | omega | (simp only [subl_length, cpl_length, List.length_set, List.length_append, List.length_cons, List.length_nil, List.length_replicate, row_len]; omega) | (simp only [subl_length, cpl_length, List.length_set, List.length_append, List.length_cons, List.length_nil, List.length_replicate, row_len]; done))) (cat_row (α := Arc) (by first | rfl | omega | (simp only [subl_length, cpl_length, List.length_set, List.length_append, List.length_cons, List.length_nil, List.length_replicate, row_len] <;> first | rfl | omega)) (by first | rfl | omega | (simp only [subl_length, cpl_length, List.length_set, List.length_append, List.length_cons, List.length_nil, List.length_replicate, row_len] <;> first | rfl | omega)) (fun _ _ _ _ => rfl)) (by first | omega | (simp only [subl_length, cpl_length, List.length_set, List.length_append, List.length_cons, List.length_nil, List.length_replicate, row_len]; omega) | (simp only [subl_length, cpl_length, List.length_set, List.length_append, List.length_cons, List.length_nil, List.length_replicate, row_len]; done)) (app_le c21 rfl) rfl rfl rfl) (fun β20 => ?_)
 refine GoO.pure (ps_fieldAddr rfl rfl) ?_
 refine GoO.eff1 (ef_store rfl rfl rfl At.p3 upd_st1 Nat.zero_lt_one rfl) ?_
 refine GoO.nil ?_
 refine GoK.blk ?_
 refine GoK.code ?_
 refine GoC.region ?_
 refine GoO.pure (ps_add rfl rfl rfl hIk16) ?_
 refine GoO.pure (ps_move rfl rfl) ?_
 refine GoO.nil ?_
 obtain rfl := Option.some.inj H
 exact GoK.againJ m17' (by omega) ⟨_, _, β20, ⟨by omega, hF13⟩, rfl, rfl⟩ (EnvD.eq rfl (EnvD.eq rfl (EnvD.eq rfl (EnvD.eq rfl (EnvD.eq rfl (EnvD.nil)))))) (TkD.cons _ _ _ _ _ Rem.p0 (HLe.refl _) (TkD.cons _ _ _ _ _ Rem.p2 (HLe.st ⟨⟨trivial, DLe.refl _⟩, DLe.len (by first | rfl | omega | (simp only [row_len, gridC_len, rowO_len, List.length_append, List.length_cons, List.length_nil] <;> first | rfl | omega))⟩) (TkD.cons _ _ _ _ _ Rem.p2 (HLe.st ⟨⟨trivial, DLe.refl _⟩, DLe.refl _⟩) (TkD.cons _ _ _ _ _ Rem.p2 (HLe.st ⟨⟨trivial, DLe.refl _⟩, DLe.refl _⟩) (TkD.nil _)))))
 obtain rfl : m17 = 0 := by omega
 refine GoC.exit rfl ?_
 cases hF13
 exact GoK.meet ⟨β10, rfl, rfl⟩ (EnvD.eq rfl (EnvD.eq rfl (EnvD.nil))) (TkD.cons _ _ _ _ _ Rem.p0 (HLe.refl _) (TkD.cons _ _ _ _ _ Rem.p0 (HLe.st ⟨⟨trivial, DLe.refl _⟩, DLe.len (by first | rfl | omega | (simp only [row_len, gridC_len, rowO_len] <;> first | rfl | omega))⟩) (TkD.cons _ _ _ _ _ Rem.p0 (HLe.st ⟨⟨trivial, DLe.refl _⟩, DLe.refl _⟩) (TkD.cons _ _ _ _ _ Rem.p0 (HLe.st ⟨⟨trivial, DLe.refl _⟩, DLe.refl _⟩) (TkD.nil _)))))
 rintro v h ⟨β10, rfl, rfl⟩
 have H := HK12; clear HK12
 refine GoK.code ?_
 refine GoC.seq ?_
 refine GoC.region ?_
 refine GoO.pure (ps_loadAg rfl At.p1 At.p1 Nat.zero_lt_one rfl rfl) ?_
 refine GoO.eff1 (ef_storeAg rfl rfl At.p2 upd_whole Nat.zero_lt_one rfl) ?_
 refine GoO.nil ?_
 refine GoK.code ?_
 obtain rfl := Option.some.inj H
 exact GoC.retL (ds := [.ag 2 (nth [.v (.int .i64 g.n), .own β10 3 0 l15.length])]) Try.results86 (ResL.cons (ResD.le (ResD.cellAg rfl At.p2 Nat.zero_lt_one rfl) (by exact DLe.ag ⟨⟨trivial, DLe.refl _⟩, DLe.refl _⟩)) (ResL.nil)) (Take.cons _ _ _ _ _ Rem.p0 (Take.nil _)) ⟨β10, rfl, rfl⟩

def weirref_Ways_B1 (g : Graph) : Nat → (List (List Int)) → Option ((List (List Int))) := fun k11 g5 =>
 (slices_Repeat_int_F ([1099511627776] : List Int) g.n).bind fun r14 =>
 ck (k11 < g5.length) <|
 ck (k11 < ((g5.set k11 r14).getD k11 []).length) <|
 some ((g5.set k11 r14).set k11 (((g5.set k11 r14).getD k11 []).set k11 0))
def weirref_Ways_B2 (g : Graph) : Nat → (List (List Int)) → Option ((List (List Int))) := fun k27 g21 =>
 ck (0 ≤ (g.as.getD k27 El.d).f ∧ (g.as.getD k27 El.d).f < ((g21.length : Nat) : Int)) <|
 ck (0 ≤ (g.as.getD k27 El.d).t ∧ (g.as.getD k27 El.d).t < (((g21.getD (((g.as.getD k27 El.d).f).toNat) []).length : Nat) : Int)) <|
 some (g21.set (((g.as.getD k27 El.d).f).toNat) ((g21.getD (((g.as.getD k27 El.d).f).toNat) []).set (((g.as.getD k27 El.d).t).toNat) (min ((g21.getD (((g.as.getD k27 El.d).f).toNat) []).getD (((g.as.getD k27 El.d).t).toNat) (0 : Int)) 1)))
def weirref_Ways_B5 (k40 : Nat) (k49 : Nat) : Nat → (List (List Int)) → Option ((List (List Int))) := fun k58 g52 =>
 ck (k49 < g52.length) <|
 ck (k58 < (g52.getD k49 []).length) <|
 ck (k40 < (g52.getD k49 []).length) <|
 ck (k40 < g52.length) <|
 ck (k58 < (g52.getD k40 []).length) <|
 ck (InI (((g52.getD k49 []).getD k40 (0 : Int)) + ((g52.getD k40 []).getD k58 (0 : Int)))) <|
 some (g52.set k49 ((g52.getD k49 []).set k58 (min ((g52.getD k49 []).getD k58 (0 : Int)) (((g52.getD k49 []).getD k40 (0 : Int)) + ((g52.getD k40 []).getD k58 (0 : Int))))))
def weirref_Ways_B4 (k40 : Nat) : Nat → (List (List Int)) → Option ((List (List Int))) := fun k49 g43 =>
 (forN (weirref_Ways_B5 k40 k49) g43.length 0 g43).bind fun g57 =>
 some g57
def weirref_Ways_B3 : Nat → (List (List Int)) → Option ((List (List Int))) := fun k40 g34 =>
 (forN (weirref_Ways_B4 k40) g34.length 0 g34).bind fun g48 =>
 some g48
def weirref_Ways_F (g : Graph) : Option ((List (List Int))) :=
 ck (0 ≤ g.n ∧ g.n ≤ 10000000000) <|
 (forN (weirref_Ways_B1 g) g.n.toNat 0 (List.replicate g.n.toNat ([] : List Int))).bind fun g10 =>
 (forN (weirref_Ways_B2 g) g.as.length 0 g10).bind fun g26 =>
 (forN (weirref_Ways_B3) g26.length 0 g26).bind fun g39 =>
 some g39
def weirref_Ways_P (out : (List (List Int))) (d : D) (H : List HL) : Prop := ∃ β1 : BK, d = .own β1 1 0 out.length ∧ H = [.one β1 26 1 (row out)]
set_option maxRecDepth 100000 in
set_option maxHeartbeats 4000000 in
theorem weirref_Ways_spec (g : Graph) {out : (List (List Int))} (H : weirref_Ways_F g = some out) : Does Try.prog 85 [.ag 2 (nth [.v (.int .i64 g.n), slD g.as])] [] (weirref_Ways_P out) := by
 unfold weirref_Ways_F at H
 refine Does.intro Try.func85 rfl Try.ntmps85 rfl fun w0 I0 => ?_
 refine GoC.seq ?_
 refine GoC.region ?_
 refine GoO.effB (ef_boxAg rfl rfl) (fun β1 => ?_)
 refine GoO.pure (ps_assign rfl rfl) ?_
 refine GoO.nil ?_
 refine GoK.code ?_
 refine GoC.seq ?_
 refine GoC.region ?_
 refine GoO.pure (ps_fieldAddr rfl rfl) ?_
 refine GoO.pure (ps_load rfl At.p0 At.p0 Nat.zero_lt_one rfl rfl) ?_
 have c3 := ck_l H; replace H := ck_r H
 refine GoO.effB (ef_makeZ rfl rfl c3 rfl rfl rfl) (fun β2 => ?_)
 refine GoO.le (Le.reH At.p0 (HLe.grid0Z (α := Int) (n := g.n.toNat) (fun _ => DLe.nilOwn))) ?_
 refine GoO.le (Le.grid0 3 Int g.n.toNat) ?_
 refine GoO.pure (ps_assign rfl rfl) ?_
 refine GoO.nil ?_
 refine GoK.code ?_
 refine GoC.seq ?_
 refine GoC.seq ?_
 refine GoC.region ?_
 refine GoO.pure (ps_move rfl rfl) ?_
 refine GoO.pure (ps_len rfl (by constructor) rfl) ?_
 refine GoO.lenLe (n := g.n.toNat) (x := .tmp 13) rfl (by constructor) own_lenLe (fun ml4 => ?_)
 refine GoO.pure (ps_move rfl rfl) ?_
 refine GoO.nil ?_
 refine GoK.code ?_
 have hb := bind_l H; clear H
 obtain ⟨g10, hl19, HK7⟩ := hb
 refine GoC.blockJ [(1, .ptr β1 2 0 0)] [.one β1 33 2 (st1 (nth [.v (.int .i64 g.n), slD g.as]))] (fun v h => ∃ (Γ6 : Nat → BK), v = [(3, .own β2 1 0 g10.length)] ∧ h = [.one β2 26 1 (gridC Γ6 g10), gridH (α := Int) 3 Γ6 g10]) ?_ ?_
 refine GoC.loopJ [(1, _), (14, _)] [.one β1 33 2 (st1 (nth [.v (.int .i64 g.n), slD g.as]))] (fun mQ v h => ∃ (k11 : Nat) (g5 : (List (List Int))) (Γ6 : Nat → BK), (k11 + mQ = g.n.toNat ∧ forN (weirref_Ways_B1 g) mQ k11 g5 = some g10) ∧ v = [(15, .v (.int .i64 ((k11 : Nat) : Int))), (3, .own β2 1 0 g5.length)] ∧ h = [.one β2 26 1 (gridC Γ6 g5), gridH (α := Int) 3 Γ6 g5]) g.n.toNat ⟨_, _, (fun _ => (⟨0, 0, 0⟩ : BK)), ⟨by omega, hl19⟩, rfl, rfl⟩ (EnvD.eq rfl (EnvD.cons rfl (DLe.len (by first | rfl | omega | (simp only [row_len, gridC_len, rowO_len, List.length_cons, List.length_nil, List.length_replicate, List.length_nil] <;> first | rfl | omega))) (EnvD.eq rfl (EnvD.eq rfl (EnvD.nil))))) (TkD.cons _ _ _ _ _ Rem.p1 (HLe.refl _) (TkD.cons _ _ _ _ _ Rem.p0 (HLe.refl _) (TkD.cons _ _ _ _ _ Rem.p0 (HLe.st ⟨⟨trivial, DLe.refl _⟩, DLe.refl _⟩) (TkD.nil _)))) ?_
 rintro m12 v h ⟨k11, g5, Γ6, ⟨hkk11, hF8⟩, rfl, rfl⟩
 refine GoC.seq ?_
 refine GoC.region ?_
 refine GoO.pure (ps_lss rfl rfl rfl) ?_
 refine GoO.nil ?_
 refine GoK.code ?_
 refine GoC.seq ?_
 refine GoC.condD rfl (fun (hk11 : (k11 : Int) < ((g.n.toNat : Nat) : Int)) => ?_) (fun (hk11 : ¬ (k11 : Int) < ((g.n.toNat : Nat) : Int)) => ?_)
 obtain ⟨m12', rfl⟩ : ∃ x, m12 = x + 1 := ⟨m12 - 1, by omega⟩
 have hb := bind_l hF8; clear hF8
 obtain ⟨qrm12, H, hF8⟩ := hb
 have hnk11 : k11 < g.n.toNat := by omega
 have hIk11 : InI ((k11 : Int) + 1) := inI_len hk11 ml4
 refine GoC.skip ?_
 refine GoK.code ?_
 refine GoC.seq ?_
 refine GoC.block ?_
 refine GoC.seq ?_
 refine GoC.region ?_
 refine GoO.pure (ps_move rfl rfl) ?_
 refine GoO.pure (ps_assign rfl rfl) ?_
 refine GoO.nil ?_
 refine GoK.code ?_
 refine GoC.seq ?_
 refine GoC.region ?_
 refine GoO.pure (ps_move rfl rfl) ?_
 refine GoO.pure (ps_move rfl rfl) ?_
 refine GoO.effB (ef_buildSlice (row ([1099511627776] : List Int)) rfl (Parts.cons _ _ _ _ _ _ _ _ ⟨rfl, rfl⟩ (Part.one _ rfl rfl) rfl rfl (Parts.nil _)) rfl rfl rfl rfl) (fun β13 => ?_)
 refine GoO.pure (ps_fieldAddr rfl rfl) ?_
 refine GoO.pure (ps_load rfl At.p3 At.p3 Nat.zero_lt_one rfl rfl) ?_
 have hb := bind_l H; clear H
 obtain ⟨r14, e16, H⟩ := hb
 refine GoO.effC (ef_call rfl (Take.nil _) (Take.cons _ _ _ _ _ Rem.p0 (Take.nil _)) (slices_Repeat_int_spec ([1099511627776] : List Int) g.n e16) (LendL.cons (Lend.all' At.p0 (by first | rfl | omega | (simp only [subl_length, cpl_length, List.length_set, List.length_append, List.length_cons, List.length_nil, List.length_replicate, row_len] <;> first | rfl | omega)) rfl) (LendL.cons (Lend.refl _ _) (LendL.nil))) rfl (slices_Repeat_int_I (r14))) (fun rr HH hp => ?_)
 obtain ⟨β15, rfl, rfl⟩ := hp
 have c17 := ck_l H; replace H := ck_r H
 refine GoO.pure (ps_indexAddr0N rfl rfl c17 rfl) ?_
 refine GoO.eff1 (ef_store rfl rfl rfl At.p2 (upd_grid (α := Int) (ys := r14) rfl (by first | rfl | omega | (simp only [subl_length, cpl_length, List.length_set, List.length_append, List.length_cons, List.length_nil, List.length_replicate, row_len]; omega) | (simp only [subl_length, cpl_length, List.length_set, List.length_append, List.length_cons, List.length_nil, List.length_replicate, row_len]; done) | simp)) c17 rfl) ?_
 refine GoO.le (Le.absorb (α := Int) (B := Γ6) (xs := g5) (ys := r14) (i := k11) Rem.p0 Rem.p2 rfl (fun _ _ => rfl) (fun _ _ => rfl)) ?_
 refine GoO.nil ?_
 refine GoK.code ?_
 refine GoC.region ?_
 refine GoO.pure (ps_move rfl rfl) ?_
 refine GoO.pure (ps_move rfl rfl) ?_
 refine GoO.pure (ps_indexAddr0N rfl rfl c17 rfl) ?_
 refine GoO.pure (ps_load rfl At.p2 At.p2 (lt_len c17 (by first | rfl | omega | (simp only [row_len, gridC_len, rowO_len, List.length_set] <;> first | rfl | omega))) rfl rfl) ?_
 refine GoO.pure (ps_move rfl rfl) ?_
 have c18 := ck_l H; replace H := ck_r H
 refine GoO.pure (ps_indexAddr0N rfl rfl c18 rfl) ?_
 refine GoO.eff1 (ef_storeG (α := Int) (xs := (g5.set k11 r14)) (v := 0) rfl rfl rfl rfl At.p0 (upd_row1 (v := 0) rfl) (lt_len c17 (by first | rfl | omega | (simp only [row_len, gridC_len, rowO_len, List.length_set] <;> first | rfl | omega))) c18 rfl) ?_
 refine GoO.le (Le.reH At.p2 (HLe.gridW (α := Int) (i := k11) (e := k11) (v := 0))) ?_
 refine GoO.nil ?_
 refine GoK.blk ?_
 refine GoK.code ?_
 refine GoC.region ?_
 refine GoO.pure (ps_add rfl rfl rfl hIk11) ?_
 refine GoO.pure (ps_move rfl rfl) ?_
 refine GoO.nil ?_
 obtain rfl := Option.some.inj H
 exact GoK.againJ m12' (by omega) ⟨_, _, (updF Γ6 k11 β15), ⟨by omega, hF8⟩, rfl, rfl⟩ (EnvD.eq rfl (EnvD.cons rfl (DLe.len (by first | rfl | omega | (simp only [row_len, gridC_len, rowO_len, List.length_set, List.length_cons, List.length_nil, List.length_nil] <;> first | rfl | omega))) (EnvD.eq rfl (EnvD.eq rfl (EnvD.nil))))) (TkD.cons _ _ _ _ _ Rem.p2 (HLe.refl _) (TkD.cons _ _ _ _ _ Rem.p0 (HLe.refl _) (TkD.cons _ _ _ _ _ Rem.p1 (HLe.st ⟨⟨trivial, DLe.refl _⟩, DLe.refl _⟩) (TkD.nil _))))
 obtain rfl : m12 = 0 := by omega
 refine GoC.exit rfl ?_
 cases hF8
 exact GoK.meet ⟨Γ6, rfl, rfl⟩ (EnvD.cons rfl (DLe.len (by first | rfl | omega | (simp only [row_len, gridC_len, rowO_len] <;> first | rfl | omega))) (EnvD.eq rfl (EnvD.nil))) (TkD.cons _ _ _ _ _ Rem.p0 (HLe.refl _) (TkD.cons _ _ _ _ _ Rem.p0 (HLe.refl _) (TkD.cons _ _ _ _ _ Rem.p0 (HLe.st ⟨⟨trivial, DLe.refl _⟩, DLe.refl _⟩) (TkD.nil _))))
 rintro v h ⟨Γ6, rfl, rfl⟩
 have H := HK7; clear HK7
 refine GoK.code ?_
 refine GoC.seq ?_
 refine GoC.seq ?_
 refine GoC.region ?_
 refine GoO.pure (ps_fieldAddr rfl rfl) ?_
 refine GoO.pure (ps_load rfl At.p2 At.p2 Nat.zero_lt_one rfl rfl) ?_
 refine GoO.pure (ps_len rfl (by constructor) rfl) ?_
 refine GoO.lenLe (n := g.as.length) (x := .tmp 33) rfl (by constructor) sl_lenLe (fun ml20 => ?_)
 refine GoO.pure (ps_move rfl rfl) ?_
 refine GoO.nil ?_
 refine GoK.code ?_
 have hb := bind_l H; clear H
 obtain ⟨g26, hl32, HK23⟩ := hb
 refine GoC.blockJ [] [.one β1 33 2 (st1 (nth [.v (.int .i64 g.n), slD g.as]))] (fun v h => ∃ (Γ22 : Nat → BK), v = [(3, .own β2 1 0 g26.length)] ∧ h = [.one β2 26 1 (gridC Γ22 g26), gridH (α := Int) 3 Γ22 g26]) ?_ ?_
 refine GoC.loopJ [(33, _), (34, _)] [.one β1 33 2 (st1 (nth [.v (.int .i64 g.n), slD g.as]))] (fun mQ v h => ∃ (k27 : Nat) (g21 : (List (List Int))) (Γ22 : Nat → BK), (k27 + mQ = g.as.length ∧ forN (weirref_Ways_B2 g) mQ k27 g21 = some g26) ∧ v = [(35, .v (.int .i64 ((k27 : Nat) : Int))), (3, .own β2 1 0 g21.length)] ∧ h = [.one β2 26 1 (gridC Γ22 g21), gridH (α := Int) 3 Γ22 g21]) g.as.length ⟨_, _, Γ6, ⟨by omega, hl32⟩, rfl, rfl⟩ (EnvD.eq rfl (EnvD.cons rfl (DLe.len (by first | rfl | omega | (simp only [row_len, gridC_len, rowO_len] <;> first | rfl | omega))) (EnvD.eq rfl (EnvD.eq rfl (EnvD.nil))))) (TkD.cons _ _ _ _ _ Rem.p0 (HLe.refl _) (TkD.cons _ _ _ _ _ Rem.p0 (HLe.refl _) (TkD.cons _ _ _ _ _ Rem.p0 (HLe.st ⟨⟨trivial, DLe.refl _⟩, DLe.refl _⟩) (TkD.nil _)))) ?_
 rintro m28 v h ⟨k27, g21, Γ22, ⟨hkk27, hF24⟩, rfl, rfl⟩
 refine GoC.seq ?_
 refine GoC.region ?_
 refine GoO.pure (ps_lss rfl rfl rfl) ?_
 refine GoO.nil ?_
 refine GoK.code ?_
 refine GoC.seq ?_
 refine GoC.condD rfl (fun (hk27 : (k27 : Int) < ((g.as.length : Nat) : Int)) => ?_) (fun (hk27 : ¬ (k27 : Int) < ((g.as.length : Nat) : Int)) => ?_)
 obtain ⟨m28', rfl⟩ : ∃ x, m28 = x + 1 := ⟨m28 - 1, by omega⟩
 have hb := bind_l hF24; clear hF24
 obtain ⟨qrm28, H, hF24⟩ := hb
 have hnk27 : k27 < g.as.length := by omega
 have hIk27 : InI ((k27 : Int) + 1) := inI_len hk27 ml20
 refine GoC.skip ?_
 refine GoK.code ?_
 refine GoC.seq ?_
 refine GoC.block ?_
 refine GoC.seq ?_
 refine GoC.region ?_
 refine GoO.pure (ps_indexAddrRN rfl rfl hnk27 rfl) ?_
 refine GoO.pure (ps_loadAgR rfl hnk27 rfl rfl) ?_
 refine GoO.effB (ef_alloc rfl) (fun β29 => ?_)
 refine GoO.eff1 (ef_storeAg rfl rfl At.p0 upd_whole Nat.zero_lt_one rfl) ?_
 refine GoO.nil ?_
 refine GoK.code ?_
 refine GoC.drawQ (.q 0 (.q 1 (.q 2 (.q 3 (.q 4 (.q 5 (.q 6 (.q 7 (.q 8 (.q 9 (.q 10 (.q 11 (.q 12 (.q 13 (.q 14 (.q 15 (.q 16 (.q 17 (.one 18 (.done)))))))))))))))))))) 18 follows (by kernel_rfl) ?_
 refine GoQ.qP rfl rfl (ps_move rfl rfl) ?_
 refine GoQ.qP rfl rfl (ps_fieldAddr rfl rfl) ?_
 refine GoQ.qN rfl (by kernel_rfl) (ps_load rfl At.p0 At.p0 Nat.zero_lt_one rfl rfl) ?_
 have c30 := ck_l H; replace H := ck_r H
 refine GoQ.qP rfl rfl (ps_indexAddr0 rfl rfl c30 rfl) ?_
 refine GoQ.qN rfl (by kernel_rfl) (ps_load rfl At.p1 At.p1 (idx_lt c30) rfl rfl) ?_
 refine GoQ.qP rfl rfl (ps_fieldAddr rfl rfl) ?_
 refine GoQ.qN rfl (by kernel_rfl) (ps_load rfl At.p0 At.p0 Nat.zero_lt_one rfl rfl) ?_
 refine GoQ.qP rfl rfl (ps_move rfl rfl) ?_
 refine GoQ.qP rfl rfl (ps_fieldAddr rfl rfl) ?_
 refine GoQ.qN rfl (by kernel_rfl) (ps_load rfl At.p0 At.p0 Nat.zero_lt_one rfl rfl) ?_
 refine GoQ.qP rfl rfl (ps_indexAddr0 rfl rfl c30 rfl) ?_
 refine GoQ.qN rfl (by kernel_rfl) (ps_load rfl At.p1 At.p1 (idx_lt c30) rfl rfl) ?_
 refine GoQ.qP rfl rfl (ps_fieldAddr rfl rfl) ?_
 refine GoQ.qN rfl (by kernel_rfl) (ps_load rfl At.p0 At.p0 Nat.zero_lt_one rfl rfl) ?_
 have c31 := ck_l H; replace H := ck_r H
 refine GoQ.qP rfl rfl (ps_indexAddr0 rfl rfl c31 rfl) ?_
 refine GoQ.qN rfl (by kernel_rfl) (ps_loadG (α := Int) (xs := g21) rfl rfl At.p2 At.p2 (idx_lt c30) (idx_lt c31) rfl rfl) ?_
 refine GoQ.qP rfl rfl (ps_min rfl rfl rfl) ?_
 refine GoQ.qP rfl rfl (ps_indexAddr0 rfl rfl c31 rfl) ?_
 refine GoQ.last1 rfl trivial (ef_storeG (α := Int) (xs := g21) (v := (min ((g21.getD (((g.as.getD k27 El.d).f).toNat) []).getD (((g.as.getD k27 El.d).t).toNat) (0 : Int)) 1)) rfl rfl rfl rfl At.p2 (upd_row1 (v := (min ((g21.getD (((g.as.getD k27 El.d).f).toNat) []).getD (((g.as.getD k27 El.d).t).toNat) (0 : Int)) 1)) rfl) (idx_lt c30) (idx_lt c31) rfl) (Take.cons _ _ _ _ _ Rem.p2 (Take.nil _)) ?_
 refine GoP.leD (Le.reH At.p1 (HLe.gridW (α := Int) (i := ((g.as.getD k27 El.d).f).toNat) (e := ((g.as.getD k27 El.d).t).toNat) (v := (min ((g21.getD (((g.as.getD k27 El.d).f).toNat) []).getD (((g.as.getD k27 El.d).t).toNat) (0 : Int)) 1)))) ?_
 refine GoP.done ?_
 refine GoK.blk ?_
 refine GoK.code ?_
 refine GoC.region ?_
 refine GoO.pure (ps_add rfl rfl rfl hIk27) ?_
 refine GoO.pure (ps_move rfl rfl) ?_
 refine GoO.nil ?_
 obtain rfl := Option.some.inj H
 exact GoK.againJ m28' (by omega) ⟨_, _, Γ22, ⟨by omega, hF24⟩, rfl, rfl⟩ (EnvD.eq rfl (EnvD.cons rfl (DLe.len (by first | rfl | omega | (simp only [row_len, gridC_len, rowO_len, List.length_set, List.length_cons, List.length_nil, List.length_nil] <;> first | rfl | omega))) (EnvD.eq rfl (EnvD.eq rfl (EnvD.nil))))) (TkD.cons _ _ _ _ _ Rem.p1 (HLe.refl _) (TkD.cons _ _ _ _ _ Rem.p1 (HLe.refl _) (TkD.cons _ _ _ _ _ Rem.p1 (HLe.st ⟨⟨trivial, DLe.refl _⟩, DLe.refl _⟩) (TkD.nil _))))
 obtain rfl : m28 = 0 := by omega
 refine GoC.exit rfl ?_
 cases hF24
 exact GoK.meet ⟨Γ22, rfl, rfl⟩ (EnvD.cons rfl (DLe.len (by first | rfl | omega | (simp only [row_len, gridC_len, rowO_len] <;> first | rfl | omega))) (EnvD.nil)) (TkD.cons _ _ _ _ _ Rem.p0 (HLe.refl _) (TkD.cons _ _ _ _ _ Rem.p0 (HLe.refl _) (TkD.cons _ _ _ _ _ Rem.p0 (HLe.st ⟨⟨trivial, DLe.refl _⟩, DLe.refl _⟩) (TkD.nil _))))
 rintro v h ⟨Γ22, rfl, rfl⟩
 have H := HK23; clear HK23
 refine GoK.code ?_
 refine GoC.seq ?_
 refine GoC.seq ?_
 refine GoC.region ?_
 refine GoO.pure (ps_move rfl rfl) ?_
 refine GoO.pure (ps_len rfl (by constructor) rfl) ?_
 refine GoO.lenLe (n := g26.length) (x := .tmp 58) rfl (by constructor) own_lenLe (fun ml33 => ?_)
 refine GoO.pure (ps_move rfl rfl) ?_
 refine GoO.nil ?_
 refine GoK.code ?_
 have hb := bind_l H; clear H
 obtain ⟨g39, hl68, HK36⟩ := hb
 refine GoC.blockJ [] [.one β1 33 2 (st1 (nth [.v (.int .i64 g.n), slD g.as]))] (fun v h => ∃ (Γ35 : Nat → BK), v = [(3, .own β2 1 0 g39.length)] ∧ h = [.one β2 26 1 (gridC Γ35 g39), gridH (α := Int) 3 Γ35 g39]) ?_ ?_
 refine GoC.loopJ [(59, _)] [.one β1 33 2 (st1 (nth [.v (.int .i64 g.n), slD g.as]))] (fun mQ v h => ∃ (k40 : Nat) (g34 : (List (List Int))) (Γ35 : Nat → BK), (k40 + mQ = g26.length ∧ forN (weirref_Ways_B3) mQ k40 g34 = some g39) ∧ v = [(60, .v (.int .i64 ((k40 : Nat) : Int))), (3, .own β2 1 0 g34.length)] ∧ h = [.one β2 26 1 (gridC Γ35 g34), gridH (α := Int) 3 Γ35 g34]) g26.length ⟨_, _, Γ22, ⟨by omega, hl68⟩, rfl, rfl⟩ (EnvD.eq rfl (EnvD.cons rfl (DLe.len (by first | rfl | omega | (simp only [row_len, gridC_len, rowO_len] <;> first | rfl | omega))) (EnvD.eq rfl (EnvD.nil)))) (TkD.cons _ _ _ _ _ Rem.p0 (HLe.refl _) (TkD.cons _ _ _ _ _ Rem.p0 (HLe.refl _) (TkD.cons _ _ _ _ _ Rem.p0 (HLe.st ⟨⟨trivial, DLe.refl _⟩, DLe.refl _⟩) (TkD.nil _)))) ?_
 rintro m41 v h ⟨k40, g34, Γ35, ⟨hkk40, hF37⟩, rfl, rfl⟩
 refine GoC.seq ?_
 refine GoC.region ?_
 refine GoO.pure (ps_lss rfl rfl rfl) ?_
 refine GoO.nil ?_
 refine GoK.code ?_
 refine GoC.seq ?_
 refine GoC.condD rfl (fun (hk40 : (k40 : Int) < ((g26.length : Nat) : Int)) => ?_) (fun (hk40 : ¬ (k40 : Int) < ((g26.length : Nat) : Int)) => ?_)
 obtain ⟨m41', rfl⟩ : ∃ x, m41 = x + 1 := ⟨m41 - 1, by omega⟩
 have hb := bind_l hF37; clear hF37
 obtain ⟨qrm41, H, hF37⟩ := hb
 have hnk40 : k40 < g26.length := by omega
 have hIk40 : InI ((k40 : Int) + 1) := inI_len hk40 ml33
 refine GoC.skip ?_
 refine GoK.code ?_
 refine GoC.seq ?_
 refine GoC.block ?_
 refine GoC.seq ?_
 refine GoC.region ?_
 refine GoO.pure (ps_move rfl rfl) ?_
 refine GoO.pure (ps_assign rfl rfl) ?_
 refine GoO.nil ?_
 refine GoK.code ?_
 refine GoC.seq ?_
 refine GoC.region ?_
 refine GoO.pure (ps_move rfl rfl) ?_
 refine GoO.pure (ps_len rfl (by constructor) rfl) ?_
 refine GoO.lenLe (n := g34.length) (x := .tmp 63) rfl (by constructor) own_lenLe (fun ml42 => ?_)
 refine GoO.pure (ps_move rfl rfl) ?_
 refine GoO.nil ?_
 refine GoK.code ?_
 have hb := bind_l H; clear H
 obtain ⟨g48, hl67, HK45⟩ := hb
 refine GoC.blockJ [(59, .v (.int .i64 ((g26.length : Nat) : Int))), (60, .v (.int .i64 ((k40 : Nat) : Int)))] [.one β1 33 2 (st1 (nth [.v (.int .i64 g.n), slD g.as]))] (fun v h => ∃ (Γ44 : Nat → BK), v = [(3, .own β2 1 0 g48.length)] ∧ h = [.one β2 26 1 (gridC Γ44 g48), gridH (α := Int) 3 Γ44 g48]) ?_ ?_
 refine GoC.loopJ [(7, _), (59, _), (60, _), (64, _)] [.one β1 33 2 (st1 (nth [.v (.int .i64 g.n), slD g.as]))] (fun mQ v h => ∃ (k49 : Nat) (g43 : (List (List Int))) (Γ44 : Nat → BK), (k49 + mQ = g34.length ∧ forN (weirref_Ways_B4 k40) mQ k49 g43 = some g48) ∧ v = [(65, .v (.int .i64 ((k49 : Nat) : Int))), (3, .own β2 1 0 g43.length)] ∧ h = [.one β2 26 1 (gridC Γ44 g43), gridH (α := Int) 3 Γ44 g43]) g34.length ⟨_, _, Γ35, ⟨by omega, hl67⟩, rfl, rfl⟩ (EnvD.eq rfl (EnvD.cons rfl (DLe.len (by first | rfl | omega | (simp only [row_len, gridC_len, rowO_len] <;> first | rfl | omega))) (EnvD.eq rfl (EnvD.eq rfl (EnvD.eq rfl (EnvD.eq rfl (EnvD.nil))))))) (TkD.cons _ _ _ _ _ Rem.p0 (HLe.refl _) (TkD.cons _ _ _ _ _ Rem.p0 (HLe.refl _) (TkD.cons _ _ _ _ _ Rem.p0 (HLe.st ⟨⟨trivial, DLe.refl _⟩, DLe.refl _⟩) (TkD.nil _)))) ?_
 rintro m50 v h ⟨k49, g43, Γ44, ⟨hkk49, hF46⟩, rfl, rfl⟩
 refine GoC.seq ?_
 refine GoC.region ?_
 refine GoO.pure (ps_lss rfl rfl rfl) ?_
 refine GoO.nil ?_
 refine GoK.code ?_
 refine GoC.seq ?_
 refine GoC.condD rfl (fun (hk49 : (k49 : Int) < ((g34.length : Nat) : Int)) => ?_) (fun (hk49 : ¬ (k49 : Int) < ((g34.length : Nat) : Int)) => ?_)
 obtain ⟨m50', rfl⟩ : ∃ x, m50 = x + 1 := ⟨m50 - 1, by omega⟩
 have hb := bind_l hF46; clear hF46
 obtain ⟨qrm50, H, hF46⟩ := hb
 have hnk49 : k49 < g34.length := by omega
 have hIk49 : InI ((k49 : Int) + 1) := inI_len hk49 ml42
 refine GoC.skip ?_
 refine GoK.code ?_
 refine GoC.seq ?_
 refine GoC.block ?_
 refine GoC.seq ?_
 refine GoC.region ?_
 refine GoO.pure (ps_move rfl rfl) ?_
 refine GoO.pure (ps_assign rfl rfl) ?_
 refine GoO.nil ?_
 refine GoK.code ?_
 refine GoC.seq ?_
 refine GoC.region ?_
 refine GoO.pure (ps_move rfl rfl) ?_
 refine GoO.pure (ps_len rfl (by constructor) rfl) ?_
 refine GoO.lenLe (n := g43.length) (x := .tmp 68) rfl (by constructor) own_lenLe (fun ml51 => ?_)
 refine GoO.pure (ps_move rfl rfl) ?_
 refine GoO.nil ?_
 refine GoK.code ?_
 have hb := bind_l H; clear H
 obtain ⟨g57, hl66, HK54⟩ := hb
 refine GoC.blockJ [(7, .v (.int .i64 ((k40 : Nat) : Int))), (59, .v (.int .i64 ((g26.length : Nat) : Int))), (60, .v (.int .i64 ((k40 : Nat) : Int))), (64, .v (.int .i64 ((g34.length : Nat) : Int))), (65, .v (.int .i64 ((k49 : Nat) : Int)))] [.one β1 33 2 (st1 (nth [.v (.int .i64 g.n), slD g.as]))] (fun v h => ∃ (Γ53 : Nat → BK), v = [(3, .own β2 1 0 g57.length)] ∧ h = [.one β2 26 1 (gridC Γ53 g57), gridH (α := Int) 3 Γ53 g57]) ?_ ?_
 refine GoC.loopJ [(7, _), (8, _), (59, _), (60, _), (64, _), (65, _), (69, _)] [.one β1 33 2 (st1 (nth [.v (.int .i64 g.n), slD g.as]))] (fun mQ v h => ∃ (k58 : Nat) (g52 : (List (List Int))) (Γ53 : Nat → BK), (k58 + mQ = g43.length ∧ forN (weirref_Ways_B5 k40 k49) mQ k58 g52 = some g57) ∧ v = [(70, .v (.int .i64 ((k58 : Nat) : Int))), (3, .own β2 1 0 g52.length)] ∧ h = [.one β2 26 1 (gridC Γ53 g52), gridH (α := Int) 3 Γ53 g52]) g43.length ⟨_, _, Γ44, ⟨by omega, hl66⟩, rfl, rfl⟩ (EnvD.eq rfl (EnvD.cons rfl (DLe.len (by first | rfl | omega | (simp only [row_len, gridC_len, rowO_len] <;> first | rfl | omega))) (EnvD.eq rfl (EnvD.eq rfl (EnvD.eq rfl (EnvD.eq rfl (EnvD.eq rfl (EnvD.eq rfl (EnvD.eq rfl (EnvD.nil)))))))))) (TkD.cons _ _ _ _ _ Rem.p0 (HLe.refl _) (TkD.cons _ _ _ _ _ Rem.p0 (HLe.refl _) (TkD.cons _ _ _ _ _ Rem.p0 (HLe.st ⟨⟨trivial, DLe.refl _⟩, DLe.refl _⟩) (TkD.nil _)))) ?_
 rintro m59 v h ⟨k58, g52, Γ53, ⟨hkk58, hF55⟩, rfl, rfl⟩
 refine GoC.seq ?_
 refine GoC.region ?_
 refine GoO.pure (ps_lss rfl rfl rfl) ?_
 refine GoO.nil ?_
 refine GoK.code ?_
 refine GoC.seq ?_
 refine GoC.condD rfl (fun (hk58 : (k58 : Int) < ((g43.length : Nat) : Int)) => ?_) (fun (hk58 : ¬ (k58 : Int) < ((g43.length : Nat) : Int)) => ?_)
 obtain ⟨m59', rfl⟩ : ∃ x, m59 = x + 1 := ⟨m59 - 1, by omega⟩
 have hb := bind_l hF55; clear hF55
 obtain ⟨qrm59, H, hF55⟩ := hb
 have hnk58 : k58 < g43.length := by omega
 have hIk58 : InI ((k58 : Int) + 1) := inI_len hk58 ml51
 refine GoC.skip ?_
 refine GoK.code ?_
 refine GoC.seq ?_
 refine GoC.block ?_
 refine GoC.seq ?_
 refine GoC.region ?_
 refine GoO.pure (ps_move rfl rfl) ?_
 refine GoO.pure (ps_assign rfl rfl) ?_
 refine GoO.nil ?_
 refine GoK.code ?_
 refine GoC.drawQ (.q 0 (.q 1 (.q 2 (.q 3 (.q 4 (.q 5 (.q 6 (.q 7 (.q 8 (.q 9 (.q 10 (.q 11 (.q 12 (.q 13 (.q 14 (.q 15 (.q 16 (.q 17 (.q 18 (.q 19 (.q 20 (.q 21 (.q 22 (.q 23 (.q 24 (.q 25 (.q 26 (.q 27 (.q 28 (.one 29 (.done))))))))))))))))))))))))))))))) 29 follows (by kernel_rfl) ?_
 refine GoQ.qP rfl rfl (ps_move rfl rfl) ?_
 refine GoQ.qP rfl rfl (ps_move rfl rfl) ?_
 have c60 := ck_l H; replace H := ck_r H
 refine GoQ.qP rfl rfl (ps_indexAddr0N rfl rfl c60 rfl) ?_
 refine GoQ.qN rfl (by kernel_rfl) (ps_load rfl At.p0 At.p0 c60 rfl rfl) ?_
 refine GoQ.qP rfl rfl (ps_move rfl rfl) ?_
 refine GoQ.qP rfl rfl (ps_move rfl rfl) ?_
 refine GoQ.qP rfl rfl (ps_move rfl rfl) ?_
 refine GoQ.qP rfl rfl (ps_indexAddr0N rfl rfl c60 rfl) ?_
 refine GoQ.qN rfl (by kernel_rfl) (ps_load rfl At.p0 At.p0 c60 rfl rfl) ?_
 refine GoQ.qP rfl rfl (ps_move rfl rfl) ?_
 have c61 := ck_l H; replace H := ck_r H
 refine GoQ.qP rfl rfl (ps_indexAddr0N rfl rfl c61 rfl) ?_
 refine GoQ.qN rfl (by kernel_rfl) (ps_loadG (α := Int) (xs := g52) rfl rfl At.p1 At.p1 c60 c61 rfl rfl) ?_
 refine GoQ.qP rfl rfl (ps_move rfl rfl) ?_
 refine GoQ.qP rfl rfl (ps_move rfl rfl) ?_
 refine GoQ.qP rfl rfl (ps_indexAddr0N rfl rfl c60 rfl) ?_
 refine GoQ.qN rfl (by kernel_rfl) (ps_load rfl At.p0 At.p0 c60 rfl rfl) ?_
 refine GoQ.qP rfl rfl (ps_move rfl rfl) ?_
 have c62 := ck_l H; replace H := ck_r H
 refine GoQ.qP rfl rfl (ps_indexAddr0N rfl rfl c62 rfl) ?_
 refine GoQ.qN rfl (by kernel_rfl) (ps_loadG (α := Int) (xs := g52) rfl rfl At.p1 At.p1 c60 c62 rfl rfl) ?_
 refine GoQ.qP rfl rfl (ps_move rfl rfl) ?_
 refine GoQ.qP rfl rfl (ps_move rfl rfl) ?_
 have c63 := ck_l H; replace H := ck_r H
 refine GoQ.qP rfl rfl (ps_indexAddr0N rfl rfl c63 rfl) ?_
 refine GoQ.qN rfl (by kernel_rfl) (ps_load rfl At.p0 At.p0 c63 rfl rfl) ?_
 refine GoQ.qP rfl rfl (ps_move rfl rfl) ?_
 have c64 := ck_l H; replace H := ck_r H
 refine GoQ.qP rfl rfl (ps_indexAddr0N rfl rfl c64 rfl) ?_
 refine GoQ.qN rfl (by kernel_rfl) (ps_loadG (α := Int) (xs := g52) rfl rfl At.p1 At.p1 c63 c64 rfl rfl) ?_
 have c65 := ck_l H; replace H := ck_r H
 refine GoQ.qP rfl rfl (ps_add rfl rfl rfl c65) ?_
 refine GoQ.qP rfl rfl (ps_min rfl rfl rfl) ?_
 refine GoQ.qP rfl rfl (ps_indexAddr0N rfl rfl c61 rfl) ?_
 refine GoQ.last1 rfl trivial (ef_storeG (α := Int) (xs := g52) (v := (min ((g52.getD k49 []).getD k58 (0 : Int)) (((g52.getD k49 []).getD k40 (0 : Int)) + ((g52.getD k40 []).getD k58 (0 : Int))))) rfl rfl rfl rfl At.p1 (upd_row1 (v := (min ((g52.getD k49 []).getD k58 (0 : Int)) (((g52.getD k49 []).getD k40 (0 : Int)) + ((g52.getD k40 []).getD k58 (0 : Int))))) rfl) c60 c61 rfl) (Take.cons _ _ _ _ _ Rem.p1 (Take.nil _)) ?_
 refine GoP.leD (Le.reH At.p0 (HLe.gridW (α := Int) (i := k49) (e := k58) (v := (min ((g52.getD k49 []).getD k58 (0 : Int)) (((g52.getD k49 []).getD k40 (0 : Int)) + ((g52.getD k40 []).getD k58 (0 : Int))))))) ?_
 refine GoP.done ?_
 refine GoK.blk ?_
 refine GoK.code ?_
 refine GoC.region ?_
 refine GoO.pure (ps_add rfl rfl rfl hIk58) ?_
 refine GoO.pure (ps_move rfl rfl) ?_
 refine GoO.nil ?_
 obtain rfl := Option.some.inj H
 exact GoK.againJ m59' (by omega) ⟨_, _, Γ53, ⟨by omega, hF55⟩, rfl, rfl⟩ (EnvD.eq rfl (EnvD.cons rfl (DLe.len (by first | rfl | omega | (simp only [row_len, gridC_len, rowO_len, List.length_set, List.length_cons, List.length_nil, List.length_nil] <;> first | rfl | omega))) (EnvD.eq rfl (EnvD.eq rfl (EnvD.eq rfl (EnvD.eq rfl (EnvD.eq rfl (EnvD.eq rfl (EnvD.eq rfl (EnvD.nil)))))))))) (TkD.cons _ _ _ _ _ Rem.p0 (HLe.refl _) (TkD.cons _ _ _ _ _ Rem.p0 (HLe.refl _) (TkD.cons _ _ _ _ _ Rem.p0 (HLe.st ⟨⟨trivial, DLe.refl _⟩, DLe.refl _⟩) (TkD.nil _))))
 obtain rfl : m59 = 0 := by omega
 refine GoC.exit rfl ?_
 cases hF55
 exact GoK.meet ⟨Γ53, rfl, rfl⟩ (EnvD.cons rfl (DLe.len (by first | rfl | omega | (simp only [row_len, gridC_len, rowO_len] <;> first | rfl | omega))) (EnvD.eq rfl (EnvD.eq rfl (EnvD.eq rfl (EnvD.eq rfl (EnvD.eq rfl (EnvD.nil))))))) (TkD.cons _ _ _ _ _ Rem.p0 (HLe.refl _) (TkD.cons _ _ _ _ _ Rem.p0 (HLe.refl _) (TkD.cons _ _ _ _ _ Rem.p0 (HLe.st ⟨⟨trivial, DLe.refl _⟩, DLe.refl _⟩) (TkD.nil _))))
 rintro v h ⟨Γ53, rfl, rfl⟩
 have H := HK54; clear HK54
 refine GoK.blk ?_
 refine GoK.code ?_
 refine GoC.region ?_
 refine GoO.pure (ps_add rfl rfl rfl hIk49) ?_
 refine GoO.pure (ps_move rfl rfl) ?_
 refine GoO.nil ?_
 obtain rfl := Option.some.inj H
 exact GoK.againJ m50' (by omega) ⟨_, _, Γ53, ⟨by omega, hF46⟩, rfl, rfl⟩ (EnvD.eq rfl (EnvD.cons rfl (DLe.len (by first | rfl | omega | (simp only [row_len, gridC_len, rowO_len] <;> first | rfl | omega))) (EnvD.eq rfl (EnvD.eq rfl (EnvD.eq rfl (EnvD.eq rfl (EnvD.nil))))))) (TkD.cons _ _ _ _ _ Rem.p0 (HLe.refl _) (TkD.cons _ _ _ _ _ Rem.p0 (HLe.refl _) (TkD.cons _ _ _ _ _ Rem.p0 (HLe.st ⟨⟨trivial, DLe.refl _⟩, DLe.refl _⟩) (TkD.nil _))))
 obtain rfl : m50 = 0 := by omega
 refine GoC.exit rfl ?_
 cases hF46
 exact GoK.meet ⟨Γ44, rfl, rfl⟩ (EnvD.cons rfl (DLe.len (by first | rfl | omega | (simp only [row_len, gridC_len, rowO_len] <;> first | rfl | omega))) (EnvD.eq rfl (EnvD.eq rfl (EnvD.nil)))) (TkD.cons _ _ _ _ _ Rem.p0 (HLe.refl _) (TkD.cons _ _ _ _ _ Rem.p0 (HLe.refl _) (TkD.cons _ _ _ _ _ Rem.p0 (HLe.st ⟨⟨trivial, DLe.refl _⟩, DLe.refl _⟩) (TkD.nil _))))
 rintro v h ⟨Γ44, rfl, rfl⟩
 have H := HK45; clear HK45
 refine GoK.blk ?_
 refine GoK.code ?_
 refine GoC.region ?_
 refine GoO.pure (ps_add rfl rfl rfl hIk40) ?_
 refine GoO.pure (ps_move rfl rfl) ?_
 refine GoO.nil ?_
 obtain rfl := Option.some.inj H
 exact GoK.againJ m41' (by omega) ⟨_, _, Γ44, ⟨by omega, hF37⟩, rfl, rfl⟩ (EnvD.eq rfl (EnvD.cons rfl (DLe.len (by first | rfl | omega | (simp only [row_len, gridC_len, rowO_len] <;> first | rfl | omega))) (EnvD.eq rfl (EnvD.nil)))) (TkD.cons _ _ _ _ _ Rem.p0 (HLe.refl _) (TkD.cons _ _ _ _ _ Rem.p0 (HLe.refl _) (TkD.cons _ _ _ _ _ Rem.p0 (HLe.st ⟨⟨trivial, DLe.refl _⟩, DLe.refl _⟩) (TkD.nil _))))
 obtain rfl : m41 = 0 := by omega
 refine GoC.exit rfl ?_
 cases hF37
 exact GoK.meet ⟨Γ35, rfl, rfl⟩ (EnvD.cons rfl (DLe.len (by first | rfl | omega | (simp only [row_len, gridC_len, rowO_len] <;> first | rfl | omega))) (EnvD.nil)) (TkD.cons _ _ _ _ _ Rem.p0 (HLe.refl _) (TkD.cons _ _ _ _ _ Rem.p0 (HLe.refl _) (TkD.cons _ _ _ _ _ Rem.p0 (HLe.st ⟨⟨trivial, DLe.refl _⟩, DLe.refl _⟩) (TkD.nil _))))
 rintro v h ⟨Γ35, rfl, rfl⟩
 have H := HK36; clear HK36
 refine GoK.code ?_
 refine GoC.seq ?_
 refine GoC.region ?_
 refine GoO.pure (ps_move rfl rfl) ?_
 refine GoO.pure (ps_assign rfl rfl) ?_
 refine GoO.freezeG (α := Int) (te := 3) (to := 26) (B := Γ35) (xs := g39) (βo := β2) (j := 2) rfl Rem.p1 (fun b h => no_may b h) At.p0 ?_
 refine GoO.nil ?_
 refine GoK.code ?_
 obtain rfl := Option.some.inj H
 exact GoC.retL (ds := [.own β2 1 0 g39.length]) Try.results85 (ResL.cons (ResD.tmp rfl) (ResL.nil)) (Take.cons _ _ _ _ _ Rem.p0 (Take.nil _)) ⟨β2, rfl, rfl⟩

def weirref_Joined_c1_F (p0 : Int) : Option (Bool) :=
 some (decide (p0 < 1099511627776))
def weirref_Joined_c1_P (out : Bool) (d : D) (H : List HL) : Prop := d = .v (.bool out) ∧ H = []
theorem weirref_Joined_c1_I (out : Bool) : IndepP (weirref_Joined_c1_P out) := IndepP.of (by rintro _ _ ⟨rfl, rfl⟩; exact ⟨inferInstance, inferInstance⟩)
set_option maxRecDepth 100000 in
set_option maxHeartbeats 4000000 in
theorem weirref_Joined_c1_spec (p0 : Int) {out : Bool} (H : weirref_Joined_c1_F p0 = some out) : Does Try.prog 87 [.v (.int .i64 p0)] [] (weirref_Joined_c1_P out) := by
 unfold weirref_Joined_c1_F at H
 refine Does.intro Try.func87 rfl Try.ntmps87 rfl fun w0 I0 => ?_
 refine GoC.seq ?_
 refine GoC.region ?_
 refine GoO.pure (ps_assign rfl rfl) ?_
 refine GoO.nil ?_
 refine GoK.code ?_
 refine GoC.seq ?_
 refine GoC.region ?_
 refine GoO.pure (ps_move rfl rfl) ?_
 refine GoO.pure (ps_lss rfl rfl rfl) ?_
 refine GoO.pure (ps_assign rfl rfl) ?_
 refine GoO.nil ?_
 refine GoK.code ?_
 obtain rfl := Option.some.inj H
 exact GoC.retL (ds := [.v (.bool (decide (p0 < 1099511627776)))]) Try.results87 (ResL.cons (ResD.tmp rfl) (ResL.nil)) (Take.nil _) ⟨rfl, rfl⟩

def slices_IndexFunc_int_weirref_Joined_c1_B1 (p0 : (List Int)) : Nat → Unit → Option (Ct (Unit) (Int)) := fun k5 _ =>
 (weirref_Joined_c1_F (p0.getD k5 (0 : Int))).bind fun r7 =>
 if r7 = true then
  some (.ret ((k5 : Nat) : Int))
 else
  some (.go ())
def slices_IndexFunc_int_weirref_Joined_c1_F (p0 : (List Int)) : Option (Int) :=
 (forC (slices_IndexFunc_int_weirref_Joined_c1_B1 p0) p0.length 0 ()).bind fun q => match q with
 | .go _ =>
  some (-1)
 | .ret x => some x
def slices_IndexFunc_int_weirref_Joined_c1_P (out : Int) (d : D) (H : List HL) : Prop := d = .v (.int .i64 out) ∧ H = []
theorem slices_IndexFunc_int_weirref_Joined_c1_I (out : Int) : IndepP (slices_IndexFunc_int_weirref_Joined_c1_P out) := IndepP.of (by rintro _ _ ⟨rfl, rfl⟩; exact ⟨inferInstance, inferInstance⟩)
set_option maxRecDepth 100000 in
set_option maxHeartbeats 4000000 in
theorem slices_IndexFunc_int_weirref_Joined_c1_spec (p0 : (List Int)) {out : Int} (H : slices_IndexFunc_int_weirref_Joined_c1_F p0 = some out) : Does Try.prog 58 [slD p0, .fn 87 0 (nth [])] [] (slices_IndexFunc_int_weirref_Joined_c1_P out) := by
 unfold slices_IndexFunc_int_weirref_Joined_c1_F at H
 refine Does.intro Try.func58 rfl Try.ntmps58 rfl fun w0 I0 => ?_
 refine GoC.seq ?_
 refine GoC.region ?_
 refine GoO.pure (ps_assign rfl rfl) ?_
 refine GoO.nil ?_
 refine GoK.code ?_
 refine GoC.seq ?_
 refine GoC.seq ?_
 refine GoC.region ?_
 refine GoO.pure (ps_move rfl rfl) ?_
 refine GoO.pure (ps_len rfl (by constructor) rfl) ?_
 refine GoO.lenLe (n := p0.length) (x := .tmp 6) rfl (by constructor) sl_lenLe (fun ml1 => ?_)
 refine GoO.pure (ps_move rfl rfl) ?_
 refine GoO.nil ?_
 refine GoK.code ?_
 have hb := bind_l H; clear H
 obtain ⟨q4, hl10, HK2⟩ := hb
 refine GoC.blockJ [] [] (fun v h => q4 = .go () ∧ v = [] ∧ h = []) ?_ ?_
 refine GoC.loopJ [(0, _), (1, _), (7, _)] [] (fun mQ v h => ∃ (k5 : Nat), (k5 + mQ = p0.length ∧ forC (slices_IndexFunc_int_weirref_Joined_c1_B1 p0) mQ k5 () = some q4) ∧ v = [(8, .v (.int .i64 ((k5 : Nat) : Int)))] ∧ h = []) p0.length ⟨_, ⟨by omega, hl10⟩, rfl, rfl⟩ (EnvD.eq rfl (EnvD.eq rfl (EnvD.eq rfl (EnvD.eq rfl (EnvD.nil))))) (TkD.nil _) ?_
 rintro m6 v h ⟨k5, ⟨hkk5, hF3⟩, rfl, rfl⟩
 refine GoC.seq ?_
 refine GoC.region ?_
 refine GoO.pure (ps_lss rfl rfl rfl) ?_
 refine GoO.nil ?_
 refine GoK.code ?_
 refine GoC.seq ?_
 refine GoC.condD rfl (fun (hk5 : (k5 : Int) < ((p0.length : Nat) : Int)) => ?_) (fun (hk5 : ¬ (k5 : Int) < ((p0.length : Nat) : Int)) => ?_)
 obtain ⟨m6', rfl⟩ : ∃ x, m6 = x + 1 := ⟨m6 - 1, by omega⟩
 have hb := bind_l hF3; clear hF3
 obtain ⟨qrm6, H, hF3⟩ := hb
 have hnk5 : k5 < p0.length := by omega
 have hIk5 : InI ((k5 : Int) + 1) := inI_len hk5 ml1
 refine GoC.skip ?_
 refine GoK.code ?_
 refine GoC.seq ?_
 refine GoC.block ?_
 refine GoC.seq ?_
 refine GoC.region ?_
 refine GoO.pure (ps_move rfl rfl) ?_
 refine GoO.pure (ps_assign rfl rfl) ?_
 refine GoO.nil ?_
 refine GoK.code ?_
 refine GoC.seq ?_
 refine GoC.region ?_
 refine GoO.pure (ps_move rfl rfl) ?_
 refine GoO.pure (ps_move rfl rfl) ?_
 refine GoO.pure (ps_move rfl rfl) ?_
 refine GoO.pure (ps_indexAddrRN rfl rfl hnk5 rfl) ?_
 refine GoO.pure (ps_loadR rfl hnk5 rfl rfl) ?_
 have hb := bind_l H; clear H
 obtain ⟨r7, e8, H⟩ := hb
 refine GoO.effC (ef_callv rfl rfl rfl (Take.nil _) (Take.nil _) (weirref_Joined_c1_spec (p0.getD k5 (0 : Int)) e8) (LendL.cons (Lend.refl _ _) (LendL.nil)) rfl (weirref_Joined_c1_I (r7))) (fun rr HH hp => ?_)
 obtain ⟨rfl, rfl⟩ := hp
 refine GoO.nil ?_
 refine GoK.code ?_
 refine GoC.cond rfl (fun h9 => ?_) (fun h9 => ?_)
 replace H := itb_t h9 H
 refine GoC.seq ?_
 refine GoC.region ?_
 refine GoO.pure (ps_move rfl rfl) ?_
 refine GoO.pure (ps_assign rfl rfl) ?_
 refine GoO.nil ?_
 refine GoK.code ?_
 obtain rfl := Option.some.inj H
 obtain rfl := Option.some.inj hF3
 obtain rfl := Option.some.inj HK2
 exact GoC.retL (ds := [.v (.int .i64 ((k5 : Nat) : Int))]) Try.results58 (ResL.cons (ResD.tmp rfl) (ResL.nil)) (Take.nil _) ⟨rfl, rfl⟩
 replace H := itb_f h9 H
 refine GoC.skip ?_
 refine GoK.blk ?_
 refine GoK.code ?_
 refine GoC.region ?_
 refine GoO.pure (ps_add rfl rfl rfl hIk5) ?_
 refine GoO.pure (ps_move rfl rfl) ?_
 refine GoO.nil ?_
 obtain rfl := Option.some.inj H
 exact GoK.againJ m6' (by omega) ⟨_, ⟨by omega, hF3⟩, rfl, rfl⟩ (EnvD.eq rfl (EnvD.eq rfl (EnvD.eq rfl (EnvD.eq rfl (EnvD.nil))))) (TkD.nil _)
 obtain rfl : m6 = 0 := by omega
 refine GoC.exit rfl ?_
 cases hF3
 exact GoK.meet ⟨rfl, rfl, rfl⟩ (EnvD.nil) (TkD.nil _)
 rintro v h ⟨rfl, rfl, rfl⟩
 have H := HK2; clear HK2
 refine GoK.code ?_
 refine GoC.seq ?_
 refine GoC.region ?_
 refine GoO.pure (ps_assign rfl rfl) ?_
 refine GoO.nil ?_
 refine GoK.code ?_
 obtain rfl := Option.some.inj H
 exact GoC.retL (ds := [.v (.int .i64 (-1))]) Try.results58 (ResL.cons (ResD.tmp rfl) (ResL.nil)) (Take.nil _) ⟨rfl, rfl⟩

def weirref_Joined_B1 (r5 : (List (List Int))) : Nat → (List Int) → Option ((List Int)) := fun k15 l10 =>
 (slices_IndexFunc_int_weirref_Joined_c1_F (r5.getD k15 [])).bind fun r17 =>
 ck (l10.length + 1 ≤ 17592186044416) <|
 some (l10 ++ ([r17] : List Int))
def weirref_Joined_F (g : Graph) : Option ((List Int)) :=
 (weirref_Both_F g).bind fun r2 =>
 (weirref_Ways_F r2).bind fun r5 =>
 (forN (weirref_Joined_B1 r5) r5.length 0 []).bind fun l14 =>
 some l14
def weirref_Joined_P (out : (List Int)) (d : D) (H : List HL) : Prop := ∃ β1 : BK, d = .own β1 1 0 out.length ∧ H = [.one β1 3 1 (row out)]
theorem weirref_Joined_I (out : (List Int)) : IndepP (weirref_Joined_P out) := IndepP.of (by rintro _ _ ⟨β1, rfl, rfl⟩; exact ⟨inferInstance, inferInstance⟩)
set_option maxRecDepth 100000 in
set_option maxHeartbeats 4000000 in
theorem weirref_Joined_spec (g : Graph) {out : (List Int)} (H : weirref_Joined_F g = some out) : Does Try.prog 63 [.ag 2 (nth [.v (.int .i64 g.n), slD g.as])] [] (weirref_Joined_P out) := by
 unfold weirref_Joined_F at H
 refine Does.intro Try.func63 rfl Try.ntmps63 rfl fun w0 I0 => ?_
 refine GoC.seq ?_
 refine GoC.region ?_
 refine GoO.effB (ef_boxAg rfl rfl) (fun β1 => ?_)
 refine GoO.pure (ps_assign rfl rfl) ?_
 refine GoO.nil ?_
 refine GoK.code ?_
 refine GoC.seq ?_
 refine GoC.region ?_
 refine GoO.pure (ps_loadAg rfl At.p0 At.p0 Nat.zero_lt_one rfl rfl) ?_
 have hb := bind_l H; clear H
 obtain ⟨r2, e4, H⟩ := hb
 refine GoO.effC (ef_call rfl (Take.nil _) (Take.nil _) (weirref_Both_spec g e4) (LendL.cons (Lend.agA ⟨⟨trivial, Lend.refl _ _⟩, Lend.refl _ _⟩) (LendL.nil)) rfl (weirref_Both_I (r2))) (fun rr HH hp => ?_)
 obtain ⟨β3, rfl, rfl⟩ := hp
 have hb := bind_l H; clear H
 obtain ⟨r5, e7, H⟩ := hb
 refine GoO.callF rfl (Take.nil _) (Take.cons _ _ _ _ _ Rem.p0 (Take.nil _)) (weirref_Ways_spec r2 e7) (LendL.cons (Lend.agA ⟨⟨trivial, Lend.refl _ _⟩, Lend.all' At.p0 (by first | rfl | omega | (simp only [subl_length, cpl_length, List.length_set, List.length_append, List.length_cons, List.length_nil, List.length_replicate, row_len] <;> first | rfl | omega)) rfl⟩) (LendL.nil)) rfl no_fps (fun rr HH hp => ?_)
 obtain ⟨β6, rfl, rfl⟩ := hp
 refine GoO.pure (ps_assign rfl rfl) ?_
 refine GoO.nil ?_
 refine GoK.code ?_
 refine GoC.seq ?_
 refine GoC.region ?_
 refine GoO.pure (ps_assign rfl rfl) ?_
 refine GoO.nil ?_
 refine GoK.code ?_
 refine GoC.seq ?_
 refine GoC.seq ?_
 refine GoC.region ?_
 refine GoO.pure (ps_move rfl rfl) ?_
 refine GoO.pure (ps_len rfl (by constructor) rfl) ?_
 refine GoO.lenLe (n := r5.length) (x := .tmp 9) rfl (by constructor) own_lenLe (fun ml8 => ?_)
 refine GoO.pure (ps_move rfl rfl) ?_
 refine GoO.nil ?_
 refine GoK.code ?_
 have hb := bind_l H; clear H
 obtain ⟨l14, hl22, HK11⟩ := hb
 refine GoC.blockJ [] [.one β6 26 1 (row r5), .one β1 33 2 (st1 (nth [.v (.int .i64 g.n), slD g.as]))] (fun v h => ∃ (β9 : BK), v = [(4, .own β9 1 0 l14.length)] ∧ h = [.one β9 3 1 (row l14)]) ?_ ?_
 refine GoC.loopJ [(3, _), (10, _)] [.one β6 26 1 (row r5), .one β1 33 2 (st1 (nth [.v (.int .i64 g.n), slD g.as]))] (fun mQ v h => ∃ (k15 : Nat) (l10 : (List Int)) (β9 : BK), (k15 + mQ = r5.length ∧ forN (weirref_Joined_B1 r5) mQ k15 l10 = some l14) ∧ v = [(11, .v (.int .i64 ((k15 : Nat) : Int))), (4, .own β9 1 0 l10.length)] ∧ h = [.one β9 3 1 (row l10)]) r5.length ⟨_, _, ⟨0, 0, 0⟩, ⟨by omega, hl22⟩, rfl, rfl⟩ (EnvD.eq rfl (EnvD.cons rfl (DLe.nilOwn) (EnvD.eq rfl (EnvD.eq rfl (EnvD.nil))))) (TkD.no _ _ _ _ _ rfl (TkD.cons _ _ _ _ _ Rem.p0 (HLe.refl _) (TkD.cons _ _ _ _ _ Rem.p0 (HLe.st ⟨⟨trivial, DLe.refl _⟩, DLe.refl _⟩) (TkD.nil _)))) ?_
 rintro m16 v h ⟨k15, l10, β9, ⟨hkk15, hF12⟩, rfl, rfl⟩
 refine GoC.seq ?_
 refine GoC.region ?_
 refine GoO.pure (ps_lss rfl rfl rfl) ?_
 refine GoO.nil ?_
 refine GoK.code ?_
 refine GoC.seq ?_
 refine GoC.condD rfl (fun (hk15 : (k15 : Int) < ((r5.length : Nat) : Int)) => ?_) (fun (hk15 : ¬ (k15 : Int) < ((r5.length : Nat) : Int)) => ?_)
 obtain ⟨m16', rfl⟩ : ∃ x, m16 = x + 1 := ⟨m16 - 1, by omega⟩
 have hb := bind_l hF12; clear hF12
 obtain ⟨qrm16, H, hF12⟩ := hb
 have hnk15 : k15 < r5.length := by omega
 have hIk15 : InI ((k15 : Int) + 1) := inI_len hk15 ml8
 refine GoC.skip ?_
 refine GoK.code ?_
 refine GoC.seq ?_
 refine GoC.block ?_
 refine GoC.seq ?_
 refine GoC.region ?_
 refine GoO.pure (ps_move rfl rfl) ?_
 refine GoO.pure (ps_assign rfl rfl) ?_
 refine GoO.nil ?_
 refine GoK.code ?_
 refine GoC.region ?_
 refine GoO.pure (ps_move rfl rfl) ?_
 refine GoO.pure (ps_move rfl rfl) ?_
 refine GoO.pure (ps_move rfl rfl) ?_
 refine GoO.pure (ps_indexAddr0N rfl rfl hnk15 rfl) ?_
 refine GoO.pure (ps_load rfl At.p1 At.p1 hnk15 rfl rfl) ?_
 have hb := bind_l H; clear H
 obtain ⟨r17, e18, H⟩ := hb
 refine GoO.effC (ef_call rfl (Take.nil _) (Take.nil _) (slices_IndexFunc_int_weirref_Joined_c1_spec (r5.getD k15 []) e18) (LendL.cons (Lend.refl _ _) (LendL.cons (Lend.fnV) (LendL.nil))) rfl (slices_IndexFunc_int_weirref_Joined_c1_I (r17))) (fun rr HH hp => ?_)
 obtain ⟨rfl, rfl⟩ := hp
 refine GoO.effB (ef_buildSlice (row ([r17] : List Int)) rfl (Parts.cons _ _ _ _ _ _ _ _ ⟨rfl, rfl⟩ (Part.one _ rfl rfl) rfl rfl (Parts.nil _)) rfl rfl rfl rfl) (fun β19 => ?_)
 have c21 := ck_l H; replace H := ck_r H
 refine GoO.effB (ef_append rfl rfl Rem.p1 (Src.own At.p0 (by first | omega | (simp only [subl_length, cpl_length, List.length_set, List.length_append, List.length_cons, List.length_nil, List.length_replicate, row_len]; omega) | (simp only [subl_length, cpl_length, List.length_set, List.length_append, List.length_cons, List.length_nil, List.length_replicate, row_len]; done))) (cat_row (α := Int) (by first | rfl | omega | (simp only [subl_length, cpl_length, List.length_set, List.length_append, List.length_cons, List.length_nil, List.length_replicate, row_len] <;> first | rfl | omega)) (by first | rfl | omega | (simp only [subl_length, cpl_length, List.length_set, List.length_append, List.length_cons, List.length_nil, List.length_replicate, row_len] <;> first | rfl | omega)) (fun _ _ _ _ => rfl)) (by first | omega | (simp only [subl_length, cpl_length, List.length_set, List.length_append, List.length_cons, List.length_nil, List.length_replicate, row_len]; omega) | (simp only [subl_length, cpl_length, List.length_set, List.length_append, List.length_cons, List.length_nil, List.length_replicate, row_len]; done)) (app_le c21 rfl) rfl rfl rfl) (fun β20 => ?_)
 refine GoO.pure (ps_assign rfl rfl) ?_
 refine GoO.nil ?_
 refine GoK.blk ?_
 refine GoK.code ?_
 refine GoC.region ?_
 refine GoO.pure (ps_add rfl rfl rfl hIk15) ?_
 refine GoO.pure (ps_move rfl rfl) ?_
 refine GoO.nil ?_
 obtain rfl := Option.some.inj H
 exact GoK.againJ m16' (by omega) ⟨_, _, β20, ⟨by omega, hF12⟩, rfl, rfl⟩ (EnvD.eq rfl (EnvD.cons rfl (DLe.len (by first | rfl | omega | (simp only [row_len, gridC_len, rowO_len, List.length_append, List.length_cons, List.length_nil] <;> first | rfl | omega))) (EnvD.eq rfl (EnvD.eq rfl (EnvD.nil))))) (TkD.cons _ _ _ _ _ Rem.p0 (HLe.refl _) (TkD.cons _ _ _ _ _ Rem.p1 (HLe.refl _) (TkD.cons _ _ _ _ _ Rem.p1 (HLe.st ⟨⟨trivial, DLe.refl _⟩, DLe.refl _⟩) (TkD.nil _))))
 obtain rfl : m16 = 0 := by omega
 refine GoC.exit rfl ?_
 cases hF12
 exact GoK.meet ⟨β9, rfl, rfl⟩ (EnvD.cons rfl (DLe.len (by first | rfl | omega | (simp only [row_len, gridC_len, rowO_len] <;> first | rfl | omega))) (EnvD.nil)) (TkD.cons _ _ _ _ _ Rem.p0 (HLe.refl _) (TkD.cons _ _ _ _ _ Rem.p0 (HLe.refl _) (TkD.cons _ _ _ _ _ Rem.p0 (HLe.st ⟨⟨trivial, DLe.refl _⟩, DLe.refl _⟩) (TkD.nil _))))
 rintro v h ⟨β9, rfl, rfl⟩
 have H := HK11; clear HK11
 refine GoK.code ?_
 refine GoC.seq ?_
 refine GoC.region ?_
 refine GoO.pure (ps_move rfl rfl) ?_
 refine GoO.pure (ps_assign rfl rfl) ?_
 refine GoO.nil ?_
 refine GoK.code ?_
 obtain rfl := Option.some.inj H
 exact GoC.retL (ds := [.own β9 1 0 l14.length]) Try.results63 (ResL.cons (ResD.tmp rfl) (ResL.nil)) (Take.cons _ _ _ _ _ Rem.p0 (Take.nil _)) ⟨β9, rfl, rfl⟩

def weirref_Odd_B1 (g : Graph) (set_ : Int) : Nat → (List Arc) → Option ((List Arc)) := fun k10 l5 =>
 ck (0 ≤ ((g.as.getD k10 El.d).f)) <|
 if (bitsOf .and .i64 (Int.fdiv set_ (2 ^ min (((g.as.getD k10 El.d).f).toNat) 64)) 1) = 0 then
  ck (0 ≤ ((g.as.getD k10 El.d).t)) <|
  if (bitsOf .and .i64 (Int.fdiv set_ (2 ^ min (((g.as.getD k10 El.d).t).toNat) 64)) 1) = 0 then
   ck (l5.length + 1 ≤ 5864062014805) <|
   some (l5 ++ ([(g.as.getD k10 El.d)] : List Arc))
  else
   some l5
 else
  some l5
def weirref_Odd_B3 (set_ : Int) (r21 : (List Int)) (k30 : Nat) : Nat → Nat → Option (Nat) := fun k38 n33 =>
 if (r21.getD k38 (0 : Int)) = ((k30 : Nat) : Int) then
  if (bitsOf .and .i64 (Int.fdiv set_ (2 ^ min k38 64)) 1) = 0 then
   ck (InI (((n33 : Nat) : Int) + 1)) <|
   some (n33 + 1)
  else
   some n33
 else
  some n33
def weirref_Odd_B2 (set_ : Int) (r21 : (List Int)) : Nat → Int → Option (Int) := fun k30 x25 =>
 (forN (weirref_Odd_B3 set_ r21 k30) r21.length 0 0).bind fun n37 =>
 ck (InI (x25 + (Int.tmod ((n37 : Nat) : Int) 2))) <|
 some (x25 + (Int.tmod ((n37 : Nat) : Int) 2))
def weirref_Odd_F (g : Graph) (set_ : Int) : Option (Int) :=
 (forN (weirref_Odd_B1 g set_) g.as.length 0 []).bind fun l9 =>
 (weirref_Joined_F (⟨g.n, l9⟩ : Graph)).bind fun r21 =>
 ck (InI g.n) <|
 (forN (weirref_Odd_B2 set_ r21) g.n.toNat 0 0).bind fun x29 =>
 some x29
def weirref_Odd_P (out : Int) (d : D) (H : List HL) : Prop := d = .v (.int .i64 out) ∧ H = []
theorem weirref_Odd_I (out : Int) : IndepP (weirref_Odd_P out) := IndepP.of (by rintro _ _ ⟨rfl, rfl⟩; exact ⟨inferInstance, inferInstance⟩)
set_option maxRecDepth 100000 in
set_option maxHeartbeats 4000000 in
theorem weirref_Odd_spec (g : Graph) (set_ : Int) {out : Int} (H : weirref_Odd_F g set_ = some out) : Does Try.prog 28 [.ag 2 (nth [.v (.int .i64 g.n), slD g.as]), .v (.int .i64 set_)] [] (weirref_Odd_P out) := by
 unfold weirref_Odd_F at H
 refine Does.intro Try.func28 rfl Try.ntmps28 rfl fun w0 I0 => ?_
 refine GoC.seq ?_
 refine GoC.region ?_
 refine GoO.effB (ef_boxAg rfl rfl) (fun β1 => ?_)
 refine GoO.pure (ps_assign rfl rfl) ?_
 refine GoO.nil ?_
 refine GoK.code ?_
 refine GoC.seq ?_
 refine GoC.region ?_
 refine GoO.pure (ps_fieldAddr rfl rfl) ?_
 refine GoO.pure (ps_load rfl At.p0 At.p0 Nat.zero_lt_one rfl rfl) ?_
 refine GoO.pure (ps_build (Parts.cons _ _ _ _ _ _ _ _ FdP.of (Part.one _ rfl rfl) rfl rfl (Parts.nil _)) rfl) ?_
 refine GoO.effB (ef_alloc rfl) (fun β2 => ?_)
 refine GoO.eff1 (ef_storeAg rfl rfl At.p0 upd_whole Nat.zero_lt_one rfl) ?_
 refine GoO.nil ?_
 refine GoK.code ?_
 refine GoC.seq ?_
 refine GoC.seq ?_
 refine GoC.region ?_
 refine GoO.pure (ps_fieldAddr rfl rfl) ?_
 refine GoO.pure (ps_load rfl At.p1 At.p1 Nat.zero_lt_one rfl rfl) ?_
 refine GoO.pure (ps_len rfl (by constructor) rfl) ?_
 refine GoO.lenLe (n := g.as.length) (x := .tmp 18) rfl (by constructor) sl_lenLe (fun ml3 => ?_)
 refine GoO.pure (ps_move rfl rfl) ?_
 refine GoO.nil ?_
 refine GoK.code ?_
 have hb := bind_l H; clear H
 obtain ⟨l9, hl20, HK6⟩ := hb
 refine GoC.blockJ [(1, .v (.int .i64 set_)), (2, .ptr β1 2 0 0)] [.one β1 33 2 (st1 (nth [.v (.int .i64 g.n), slD g.as]))] (fun v h => ∃ (β4 : BK), v = [(5, .ptr β2 2 0 0)] ∧ h = [.one β4 39 3 (row l9), .one β2 33 2 (st1 (nth [.v (.int .i64 g.n), .own β4 3 0 l9.length]))]) ?_ ?_
 refine GoC.loopJ [(1, _), (2, _), (18, _), (19, _)] [.one β1 33 2 (st1 (nth [.v (.int .i64 g.n), slD g.as]))] (fun mQ v h => ∃ (k10 : Nat) (l5 : (List Arc)) (β4 : BK), (k10 + mQ = g.as.length ∧ forN (weirref_Odd_B1 g set_) mQ k10 l5 = some l9) ∧ v = [(20, .v (.int .i64 ((k10 : Nat) : Int))), (5, .ptr β2 2 0 0)] ∧ h = [.one β4 39 3 (row l5), .one β2 33 2 (st1 (nth [.v (.int .i64 g.n), .own β4 3 0 l5.length]))]) g.as.length ⟨_, _, ⟨0, 0, 0⟩, ⟨by omega, hl20⟩, rfl, rfl⟩ (EnvD.eq rfl (EnvD.eq rfl (EnvD.eq rfl (EnvD.eq rfl (EnvD.eq rfl (EnvD.eq rfl (EnvD.nil))))))) (TkD.no _ _ _ _ _ rfl (TkD.cons _ _ _ _ _ Rem.p0 (HLe.st ⟨⟨trivial, DLe.refl _⟩, DLe.nilOwn⟩) (TkD.cons _ _ _ _ _ Rem.p0 (HLe.st ⟨⟨trivial, DLe.refl _⟩, DLe.refl _⟩) (TkD.nil _)))) ?_
 rintro m11 v h ⟨k10, l5, β4, ⟨hkk10, hF7⟩, rfl, rfl⟩
 refine GoC.seq ?_
 refine GoC.region ?_
 refine GoO.pure (ps_lss rfl rfl rfl) ?_
 refine GoO.nil ?_
 refine GoK.code ?_
 refine GoC.seq ?_
 refine GoC.condD rfl (fun (hk10 : (k10 : Int) < ((g.as.length : Nat) : Int)) => ?_) (fun (hk10 : ¬ (k10 : Int) < ((g.as.length : Nat) : Int)) => ?_)
 obtain ⟨m11', rfl⟩ : ∃ x, m11 = x + 1 := ⟨m11 - 1, by omega⟩
 have hb := bind_l hF7; clear hF7
 obtain ⟨qrm11, H, hF7⟩ := hb
 have hnk10 : k10 < g.as.length := by omega
 have hIk10 : InI ((k10 : Int) + 1) := inI_len hk10 ml3
 refine GoC.skip ?_
 refine GoK.code ?_
 refine GoC.seq ?_
 refine GoC.block ?_
 refine GoC.seq ?_
 refine GoC.region ?_
 refine GoO.pure (ps_indexAddrRN rfl rfl hnk10 rfl) ?_
 refine GoO.pure (ps_loadAgR rfl hnk10 rfl rfl) ?_
 refine GoO.effB (ef_alloc rfl) (fun β12 => ?_)
 refine GoO.eff1 (ef_storeAg rfl rfl At.p0 upd_whole Nat.zero_lt_one rfl) ?_
 refine GoO.nil ?_
 refine GoK.code ?_
 refine GoC.seq ?_
 refine GoC.region ?_
 refine GoO.pure (ps_move rfl rfl) ?_
 refine GoO.pure (ps_fieldAddr rfl rfl) ?_
 refine GoO.pure (ps_load rfl At.p0 At.p0 Nat.zero_lt_one rfl rfl) ?_
 have c13 := ck_l H; replace H := ck_r H
 refine GoO.pure (ps_shr rfl rfl rfl c13) ?_
 refine GoO.pure (ps_and rfl rfl rfl) ?_
 refine GoO.pure (ps_eql rfl rfl rfl) ?_
 refine GoO.pure (ps_move rfl rfl) ?_
 refine GoO.guardD rfl rfl rfl rfl (fun h14 => ?_) (fun h14 => ?_)
 replace H := ite_t h14 H
 refine GoO.pure (ps_move rfl rfl) ?_
 refine GoO.guardT rfl rfl rfl ?_
 refine GoO.pure (ps_fieldAddr rfl rfl) ?_
 refine GoO.guardT rfl rfl rfl ?_
 refine GoO.pure (ps_load rfl At.p0 At.p0 Nat.zero_lt_one rfl rfl) ?_
 refine GoO.guardT rfl rfl rfl ?_
 have c15 := ck_l H; replace H := ck_r H
 refine GoO.pure (ps_shr rfl rfl rfl c15) ?_
 refine GoO.guardT rfl rfl rfl ?_
 refine GoO.pure (ps_and rfl rfl rfl) ?_
 refine GoO.guardT rfl rfl rfl ?_
 refine GoO.pure (ps_eql rfl rfl rfl) ?_
 refine GoO.pure (ps_pickT rfl rfl rfl) ?_
 refine GoO.nil ?_
 refine GoK.code ?_
 refine GoC.condD rfl (fun h16 => ?_) (fun h16 => ?_)
 replace H := ite_t h16 H
 refine GoC.region ?_
 refine GoO.pure (ps_fieldAddr rfl rfl) ?_
 refine GoO.pure (ps_load rfl At.p2 At.p2 Nat.zero_lt_one rfl rfl) ?_
 refine GoO.pure (ps_loadAg rfl At.p0 At.p0 Nat.zero_lt_one rfl rfl) ?_
 refine GoO.effB (ef_buildSlice (row ([(g.as.getD k10 El.d)] : List Arc)) rfl (Parts.cons _ _ _ _ _ _ _ _ ⟨rfl, rfl⟩ (Part.ag _ _ rfl) rfl rfl (Parts.nil _)) rfl rfl rfl rfl) (fun β17 => ?_)
 have c19 := ck_l H; replace H := ck_r H
 refine GoO.effB (ef_append rfl rfl Rem.p2 (Src.own At.p0 (by first | omega | (simp only [subl_length, cpl_length, List.length_set, List.length_append, List.length_cons, List.length_nil, List.length_replicate, row_len]; omega) | (simp only [subl_length, cpl_length, List.length_set, List.length_append, List.length_cons, List.length_nil, List.length_replicate, row_len]; done))) (cat_row (α := Arc) (by first | rfl | omega | (simp only [subl_length, cpl_length, List.length_set, List.length_append, List.length_cons, List.length_nil, List.length_replicate, row_len] <;> first | rfl | omega)) (by first | rfl | omega | (simp only [subl_length, cpl_length, List.length_set, List.length_append, List.length_cons, List.length_nil, List.length_replicate, row_len] <;> first | rfl | omega)) (fun _ _ _ _ => rfl)) (by first | omega | (simp only [subl_length, cpl_length, List.length_set, List.length_append, List.length_cons, List.length_nil, List.length_replicate, row_len]; omega) | (simp only [subl_length, cpl_length, List.length_set, List.length_append, List.length_cons, List.length_nil, List.length_replicate, row_len]; done)) (app_le c19 rfl) rfl rfl rfl) (fun β18 => ?_)
 refine GoO.pure (ps_fieldAddr rfl rfl) ?_
 refine GoO.eff1 (ef_store rfl rfl rfl At.p3 upd_st1 Nat.zero_lt_one rfl) ?_
 refine GoO.nil ?_
 refine GoK.blk ?_
 refine GoK.code ?_
 refine GoC.region ?_
 refine GoO.pure (ps_add rfl rfl rfl hIk10) ?_
 refine GoO.pure (ps_move rfl rfl) ?_
 refine GoO.nil ?_
 obtain rfl := Option.some.inj H
 exact GoK.againJ m11' (by omega) ⟨_, _, β18, ⟨by omega, hF7⟩, rfl, rfl⟩ (EnvD.eq rfl (EnvD.eq rfl (EnvD.eq rfl (EnvD.eq rfl (EnvD.eq rfl (EnvD.eq rfl (EnvD.nil))))))) (TkD.cons _ _ _ _ _ Rem.p0 (HLe.refl _) (TkD.cons _ _ _ _ _ Rem.p2 (HLe.st ⟨⟨trivial, DLe.refl _⟩, DLe.len (by first | rfl | omega | (simp only [row_len, gridC_len, rowO_len, List.length_append, List.length_cons, List.length_nil] <;> first | rfl | omega))⟩) (TkD.cons _ _ _ _ _ Rem.p2 (HLe.st ⟨⟨trivial, DLe.refl _⟩, DLe.refl _⟩) (TkD.nil _))))
 replace H := ite_f h16 H
 refine GoC.skip ?_
 refine GoK.blk ?_
 refine GoK.code ?_
 refine GoC.region ?_
 refine GoO.pure (ps_add rfl rfl rfl hIk10) ?_
 refine GoO.pure (ps_move rfl rfl) ?_
 refine GoO.nil ?_
 obtain rfl := Option.some.inj H
 exact GoK.againJ m11' (by omega) ⟨_, _, β4, ⟨by omega, hF7⟩, rfl, rfl⟩ (EnvD.eq rfl (EnvD.eq rfl (EnvD.eq rfl (EnvD.eq rfl (EnvD.eq rfl (EnvD.eq rfl (EnvD.nil))))))) (TkD.cons _ _ _ _ _ Rem.p1 (HLe.refl _) (TkD.cons _ _ _ _ _ Rem.p1 (HLe.st ⟨⟨trivial, DLe.refl _⟩, DLe.refl _⟩) (TkD.cons _ _ _ _ _ Rem.p1 (HLe.st ⟨⟨trivial, DLe.refl _⟩, DLe.refl _⟩) (TkD.nil _))))
 replace H := ite_f h14 H
 refine GoO.guardF rfl rfl rfl rfl ?_
 refine GoO.guardF rfl rfl rfl rfl ?_
 refine GoO.guardF rfl rfl rfl rfl ?_
 refine GoO.guardF rfl rfl rfl rfl ?_
 refine GoO.guardF rfl rfl rfl rfl ?_
 refine GoO.pure (ps_pickF rfl rfl rfl) ?_
 refine GoO.nil ?_
 refine GoK.code ?_
 refine GoC.condF rfl ?_
 refine GoC.skip ?_
 refine GoK.blk ?_
 refine GoK.code ?_
 refine GoC.region ?_
 refine GoO.pure (ps_add rfl rfl rfl hIk10) ?_
 refine GoO.pure (ps_move rfl rfl) ?_
 refine GoO.nil ?_
 obtain rfl := Option.some.inj H
 exact GoK.againJ m11' (by omega) ⟨_, _, β4, ⟨by omega, hF7⟩, rfl, rfl⟩ (EnvD.eq rfl (EnvD.eq rfl (EnvD.eq rfl (EnvD.eq rfl (EnvD.eq rfl (EnvD.eq rfl (EnvD.nil))))))) (TkD.cons _ _ _ _ _ Rem.p1 (HLe.refl _) (TkD.cons _ _ _ _ _ Rem.p1 (HLe.st ⟨⟨trivial, DLe.refl _⟩, DLe.refl _⟩) (TkD.cons _ _ _ _ _ Rem.p1 (HLe.st ⟨⟨trivial, DLe.refl _⟩, DLe.refl _⟩) (TkD.nil _))))
 obtain rfl : m11 = 0 := by omega
 refine GoC.exit rfl ?_
 cases hF7
 exact GoK.meet ⟨β4, rfl, rfl⟩ (EnvD.eq rfl (EnvD.eq rfl (EnvD.eq rfl (EnvD.nil)))) (TkD.cons _ _ _ _ _ Rem.p0 (HLe.refl _) (TkD.cons _ _ _ _ _ Rem.p0 (HLe.st ⟨⟨trivial, DLe.refl _⟩, DLe.len (by first | rfl | omega | (simp only [row_len, gridC_len, rowO_len] <;> first | rfl | omega))⟩) (TkD.cons _ _ _ _ _ Rem.p0 (HLe.st ⟨⟨trivial, DLe.refl _⟩, DLe.refl _⟩) (TkD.nil _))))
 rintro v h ⟨β4, rfl, rfl⟩
 have H := HK6; clear HK6
 refine GoK.code ?_
 refine GoC.seq ?_
 refine GoC.region ?_
 refine GoO.pure (ps_assign rfl rfl) ?_
 refine GoO.nil ?_
 refine GoK.code ?_
 refine GoC.seq ?_
 refine GoC.region ?_
 refine GoO.pure (ps_loadAg rfl At.p1 At.p1 Nat.zero_lt_one rfl rfl) ?_
 have hb := bind_l H; clear H
 obtain ⟨r21, e23, H⟩ := hb
 refine GoO.effC (ef_call rfl (Take.nil _) (Take.cons _ _ _ _ _ Rem.p0 (Take.nil _)) (weirref_Joined_spec (⟨g.n, l9⟩ : Graph) e23) (LendL.cons (Lend.agA ⟨⟨trivial, Lend.refl _ _⟩, Lend.all' At.p0 (by first | rfl | omega | (simp only [subl_length, cpl_length, List.length_set, List.length_append, List.length_cons, List.length_nil, List.length_replicate, row_len] <;> first | rfl | omega)) rfl⟩) (LendL.nil)) rfl (weirref_Joined_I (r21))) (fun rr HH hp => ?_)
 obtain ⟨β22, rfl, rfl⟩ := hp
 refine GoO.pure (ps_assign rfl rfl) ?_
 refine GoO.nil ?_
 refine GoK.code ?_
 refine GoC.seq ?_
 refine GoC.seq ?_
 refine GoC.region ?_
 refine GoO.pure (ps_fieldAddr rfl rfl) ?_
 refine GoO.pure (ps_load rfl At.p3 At.p3 Nat.zero_lt_one rfl rfl) ?_
 refine GoO.pure (ps_move rfl rfl) ?_
 refine GoO.nil ?_
 refine GoK.code ?_
 have c24 := ck_l H; replace H := ck_r H
 have hb := bind_l H; clear H
 obtain ⟨x29, hl45, HK26⟩ := hb
 refine GoC.blockJ [] [.one β22 3 1 (row r21), .one β4 39 3 (row l9), .one β2 33 2 (st1 (nth [.v (.int .i64 g.n), .own β4 3 0 l9.length])), .one β1 33 2 (st1 (nth [.v (.int .i64 g.n), slD g.as]))] (fun v h => v = [(8, .v (.int .i64 x29))] ∧ h = []) ?_ ?_
 refine GoC.loopJ [(1, _), (9, _), (48, _)] [.one β22 3 1 (row r21), .one β4 39 3 (row l9), .one β2 33 2 (st1 (nth [.v (.int .i64 g.n), .own β4 3 0 l9.length])), .one β1 33 2 (st1 (nth [.v (.int .i64 g.n), slD g.as]))] (fun mQ v h => ∃ (k30 : Nat) (x25 : Int), (k30 + mQ = g.n.toNat ∧ forN (weirref_Odd_B2 set_ r21) mQ k30 x25 = some x29) ∧ v = [(49, .v (.int .i64 ((k30 : Nat) : Int))), (8, .v (.int .i64 x25))] ∧ h = []) g.n.toNat ⟨_, _, ⟨by omega, hl45⟩, rfl, rfl⟩ (EnvD.eq rfl (EnvD.eq rfl (EnvD.eq rfl (EnvD.eq rfl (EnvD.eq rfl (EnvD.nil)))))) (TkD.cons _ _ _ _ _ Rem.p0 (HLe.refl _) (TkD.cons _ _ _ _ _ Rem.p0 (HLe.refl _) (TkD.cons _ _ _ _ _ Rem.p0 (HLe.st ⟨⟨trivial, DLe.refl _⟩, DLe.refl _⟩) (TkD.cons _ _ _ _ _ Rem.p0 (HLe.st ⟨⟨trivial, DLe.refl _⟩, DLe.refl _⟩) (TkD.nil _))))) ?_
 rintro m31 v h ⟨k30, x25, ⟨hkk30, hF27⟩, rfl, rfl⟩
 refine GoC.seq ?_
 refine GoC.region ?_
 refine GoO.pure (ps_lss rfl rfl rfl) ?_
 refine GoO.nil ?_
 refine GoK.code ?_
 refine GoC.seq ?_
 refine GoC.condD rfl (fun (hk30 : (k30 : Int) < g.n) => ?_) (fun (hk30 : ¬ (k30 : Int) < g.n) => ?_)
 obtain ⟨m31', rfl⟩ : ∃ x, m31 = x + 1 := ⟨m31 - 1, by omega⟩
 have hb := bind_l hF27; clear hF27
 obtain ⟨qrm31, H, hF27⟩ := hb
 have hnk30 : k30 < g.n.toNat := by omega
 have hIk30 : InI ((k30 : Int) + 1) := inI_cnt hk30 c24
 refine GoC.skip ?_
 refine GoK.code ?_
 refine GoC.seq ?_
 refine GoC.block ?_
 refine GoC.seq ?_
 refine GoC.region ?_
 refine GoO.pure (ps_move rfl rfl) ?_
 refine GoO.pure (ps_assign rfl rfl) ?_
 refine GoO.nil ?_
 refine GoK.code ?_
 refine GoC.seq ?_
 refine GoC.region ?_
 refine GoO.pure (ps_assign rfl rfl) ?_
 refine GoO.nil ?_
 refine GoK.code ?_
 refine GoC.seq ?_
 refine GoC.seq ?_
 refine GoC.region ?_
 refine GoO.pure (ps_move rfl rfl) ?_
 refine GoO.pure (ps_len rfl (by constructor) rfl) ?_
 refine GoO.lenLe (n := r21.length) (x := .tmp 52) rfl (by constructor) own_lenLe (fun ml32 => ?_)
 refine GoO.pure (ps_move rfl rfl) ?_
 refine GoO.nil ?_
 refine GoK.code ?_
 have hb := bind_l H; clear H
 obtain ⟨n37, hl43, HK34⟩ := hb
 refine GoC.blockJ [(1, .v (.int .i64 set_)), (8, .v (.int .i64 x25)), (9, .own β22 1 0 r21.length), (48, .v (.int .i64 g.n)), (49, .v (.int .i64 ((k30 : Nat) : Int)))] [.one β22 3 1 (row r21), .one β4 39 3 (row l9), .one β2 33 2 (st1 (nth [.v (.int .i64 g.n), .own β4 3 0 l9.length])), .one β1 33 2 (st1 (nth [.v (.int .i64 g.n), slD g.as]))] (fun v h => v = [(11, .v (.int .i64 ((n37 : Nat) : Int)))] ∧ h = []) ?_ ?_
 refine GoC.loopJ [(1, _), (8, _), (9, _), (10, _), (48, _), (49, _), (52, _), (53, _)] [.one β22 3 1 (row r21), .one β4 39 3 (row l9), .one β2 33 2 (st1 (nth [.v (.int .i64 g.n), .own β4 3 0 l9.length])), .one β1 33 2 (st1 (nth [.v (.int .i64 g.n), slD g.as]))] (fun mQ v h => ∃ (k38 : Nat) (n33 : Nat), (k38 + mQ = r21.length ∧ forN (weirref_Odd_B3 set_ r21 k30) mQ k38 n33 = some n37) ∧ v = [(54, .v (.int .i64 ((k38 : Nat) : Int))), (11, .v (.int .i64 ((n33 : Nat) : Int)))] ∧ h = []) r21.length ⟨_, _, ⟨by omega, hl43⟩, rfl, rfl⟩ (EnvD.eq rfl (EnvD.eq rfl (EnvD.eq rfl (EnvD.eq rfl (EnvD.eq rfl (EnvD.eq rfl (EnvD.eq rfl (EnvD.eq rfl (EnvD.eq rfl (EnvD.eq rfl (EnvD.nil))))))))))) (TkD.cons _ _ _ _ _ Rem.p0 (HLe.refl _) (TkD.cons _ _ _ _ _ Rem.p0 (HLe.refl _) (TkD.cons _ _ _ _ _ Rem.p0 (HLe.st ⟨⟨trivial, DLe.refl _⟩, DLe.refl _⟩) (TkD.cons _ _ _ _ _ Rem.p0 (HLe.st ⟨⟨trivial, DLe.refl _⟩, DLe.refl _⟩) (TkD.nil _))))) ?_
 rintro m39 v h ⟨k38, n33, ⟨hkk38, hF35⟩, rfl, rfl⟩
 refine GoC.seq ?_
 refine GoC.region ?_
 refine GoO.pure (ps_lss rfl rfl rfl) ?_
 refine GoO.nil ?_
 refine GoK.code ?_
 refine GoC.seq ?_
 refine GoC.condD rfl (fun (hk38 : (k38 : Int) < ((r21.length : Nat) : Int)) => ?_) (fun (hk38 : ¬ (k38 : Int) < ((r21.length : Nat) : Int)) => ?_)
 obtain ⟨m39', rfl⟩ : ∃ x, m39 = x + 1 := ⟨m39 - 1, by omega⟩
 have hb := bind_l hF35; clear hF35
 obtain ⟨qrm39, H, hF35⟩ := hb
 have hnk38 : k38 < r21.length := by omega
 have hIk38 : InI ((k38 : Int) + 1) := inI_len hk38 ml32
 refine GoC.skip ?_
 refine GoK.code ?_
 refine GoC.seq ?_
 refine GoC.block ?_
 refine GoC.seq ?_
 refine GoC.region ?_
 refine GoO.pure (ps_move rfl rfl) ?_
 refine GoO.pure (ps_indexAddr0N rfl rfl hnk38 rfl) ?_
 refine GoO.pure (ps_load rfl At.p0 At.p0 hnk38 rfl rfl) ?_
 refine GoO.pure (ps_assign rfl rfl) ?_
 refine GoO.pure (ps_assign rfl rfl) ?_
 refine GoO.nil ?_
 refine GoK.code ?_
 refine GoC.seq ?_
 refine GoC.region ?_
 refine GoO.pure (ps_move rfl rfl) ?_
 refine GoO.pure (ps_move rfl rfl) ?_
 refine GoO.pure (ps_eql rfl rfl rfl) ?_
 refine GoO.pure (ps_move rfl rfl) ?_
 refine GoO.guardD rfl rfl rfl rfl (fun h40 => ?_) (fun h40 => ?_)
 replace H := ite_t h40 H
 refine GoO.pure (ps_move rfl rfl) ?_
 refine GoO.guardT rfl rfl rfl ?_
 refine GoO.pure (ps_move rfl rfl) ?_
 refine GoO.guardT rfl rfl rfl ?_
 refine GoO.pure (ps_shr rfl rfl rfl (by omega)) ?_
 refine GoO.guardT rfl rfl rfl ?_
 refine GoO.pure (ps_and rfl rfl rfl) ?_
 refine GoO.guardT rfl rfl rfl ?_
 refine GoO.pure (ps_eql rfl rfl rfl) ?_
 refine GoO.pure (ps_pickT rfl rfl rfl) ?_
 refine GoO.nil ?_
 refine GoK.code ?_
 refine GoC.condD rfl (fun h41 => ?_) (fun h41 => ?_)
 replace H := ite_t h41 H
 refine GoC.region ?_
 refine GoO.pure (ps_move rfl rfl) ?_
 have c42 := ck_l H; replace H := ck_r H
 refine GoO.pure (ps_add rfl rfl rfl c42) ?_
 refine GoO.pure (ps_assign rfl rfl) ?_
 refine GoO.nil ?_
 refine GoK.blk ?_
 refine GoK.code ?_
 refine GoC.region ?_
 refine GoO.pure (ps_add rfl rfl rfl hIk38) ?_
 refine GoO.pure (ps_move rfl rfl) ?_
 refine GoO.nil ?_
 obtain rfl := Option.some.inj H
 exact GoK.againJ m39' (by omega) ⟨_, _, ⟨by omega, hF35⟩, rfl, rfl⟩ (EnvD.eq rfl (EnvD.eq rfl (EnvD.eq rfl (EnvD.eq rfl (EnvD.eq rfl (EnvD.eq rfl (EnvD.eq rfl (EnvD.eq rfl (EnvD.eq rfl (EnvD.eq rfl (EnvD.nil))))))))))) (TkD.cons _ _ _ _ _ Rem.p0 (HLe.refl _) (TkD.cons _ _ _ _ _ Rem.p0 (HLe.refl _) (TkD.cons _ _ _ _ _ Rem.p0 (HLe.st ⟨⟨trivial, DLe.refl _⟩, DLe.refl _⟩) (TkD.cons _ _ _ _ _ Rem.p0 (HLe.st ⟨⟨trivial, DLe.refl _⟩, DLe.refl _⟩) (TkD.nil _)))))
 replace H := ite_f h41 H
 refine GoC.skip ?_
 refine GoK.blk ?_
 refine GoK.code ?_
 refine GoC.region ?_
 refine GoO.pure (ps_add rfl rfl rfl hIk38) ?_
 refine GoO.pure (ps_move rfl rfl) ?_
 refine GoO.nil ?_
 obtain rfl := Option.some.inj H
 exact GoK.againJ m39' (by omega) ⟨_, _, ⟨by omega, hF35⟩, rfl, rfl⟩ (EnvD.eq rfl (EnvD.eq rfl (EnvD.eq rfl (EnvD.eq rfl (EnvD.eq rfl (EnvD.eq rfl (EnvD.eq rfl (EnvD.eq rfl (EnvD.eq rfl (EnvD.eq rfl (EnvD.nil))))))))))) (TkD.cons _ _ _ _ _ Rem.p0 (HLe.refl _) (TkD.cons _ _ _ _ _ Rem.p0 (HLe.refl _) (TkD.cons _ _ _ _ _ Rem.p0 (HLe.st ⟨⟨trivial, DLe.refl _⟩, DLe.refl _⟩) (TkD.cons _ _ _ _ _ Rem.p0 (HLe.st ⟨⟨trivial, DLe.refl _⟩, DLe.refl _⟩) (TkD.nil _)))))
 replace H := ite_f h40 H
 refine GoO.guardF rfl rfl rfl rfl ?_
 refine GoO.guardF rfl rfl rfl rfl ?_
 refine GoO.guardF rfl rfl rfl rfl ?_
 refine GoO.guardF rfl rfl rfl rfl ?_
 refine GoO.pure (ps_pickF rfl rfl rfl) ?_
 refine GoO.nil ?_
 refine GoK.code ?_
 refine GoC.condF rfl ?_
 refine GoC.skip ?_
 refine GoK.blk ?_
 refine GoK.code ?_
 refine GoC.region ?_
 refine GoO.pure (ps_add rfl rfl rfl hIk38) ?_
 refine GoO.pure (ps_move rfl rfl) ?_
 refine GoO.nil ?_
 obtain rfl := Option.some.inj H
 exact GoK.againJ m39' (by omega) ⟨_, _, ⟨by omega, hF35⟩, rfl, rfl⟩ (EnvD.eq rfl (EnvD.eq rfl (EnvD.eq rfl (EnvD.eq rfl (EnvD.eq rfl (EnvD.eq rfl (EnvD.eq rfl (EnvD.eq rfl (EnvD.eq rfl (EnvD.eq rfl (EnvD.nil))))))))))) (TkD.cons _ _ _ _ _ Rem.p0 (HLe.refl _) (TkD.cons _ _ _ _ _ Rem.p0 (HLe.refl _) (TkD.cons _ _ _ _ _ Rem.p0 (HLe.st ⟨⟨trivial, DLe.refl _⟩, DLe.refl _⟩) (TkD.cons _ _ _ _ _ Rem.p0 (HLe.st ⟨⟨trivial, DLe.refl _⟩, DLe.refl _⟩) (TkD.nil _)))))
 obtain rfl : m39 = 0 := by omega
 refine GoC.exit rfl ?_
 cases hF35
 exact GoK.meet ⟨rfl, rfl⟩ (EnvD.eq rfl (EnvD.eq rfl (EnvD.eq rfl (EnvD.eq rfl (EnvD.eq rfl (EnvD.eq rfl (EnvD.nil))))))) (TkD.cons _ _ _ _ _ Rem.p0 (HLe.refl _) (TkD.cons _ _ _ _ _ Rem.p0 (HLe.refl _) (TkD.cons _ _ _ _ _ Rem.p0 (HLe.st ⟨⟨trivial, DLe.refl _⟩, DLe.refl _⟩) (TkD.cons _ _ _ _ _ Rem.p0 (HLe.st ⟨⟨trivial, DLe.refl _⟩, DLe.refl _⟩) (TkD.nil _)))))
 rintro v h ⟨rfl, rfl⟩
 have H := HK34; clear HK34
 refine GoK.code ?_
 refine GoC.region ?_
 refine GoO.pure (ps_move rfl rfl) ?_
 refine GoO.pure (ps_move rfl rfl) ?_
 refine GoO.pure (ps_rem rfl rfl rfl (by decide)) ?_
 have c44 := ck_l H; replace H := ck_r H
 refine GoO.pure (ps_add rfl rfl rfl c44) ?_
 refine GoO.pure (ps_assign rfl rfl) ?_
 refine GoO.nil ?_
 refine GoK.blk ?_
 refine GoK.code ?_
 refine GoC.region ?_
 refine GoO.pure (ps_add rfl rfl rfl hIk30) ?_
 refine GoO.pure (ps_move rfl rfl) ?_
 refine GoO.nil ?_
 obtain rfl := Option.some.inj H
 exact GoK.againJ m31' (by omega) ⟨_, _, ⟨by omega, hF27⟩, rfl, rfl⟩ (EnvD.eq rfl (EnvD.eq rfl (EnvD.eq rfl (EnvD.eq rfl (EnvD.eq rfl (EnvD.nil)))))) (TkD.cons _ _ _ _ _ Rem.p0 (HLe.refl _) (TkD.cons _ _ _ _ _ Rem.p0 (HLe.refl _) (TkD.cons _ _ _ _ _ Rem.p0 (HLe.st ⟨⟨trivial, DLe.refl _⟩, DLe.refl _⟩) (TkD.cons _ _ _ _ _ Rem.p0 (HLe.st ⟨⟨trivial, DLe.refl _⟩, DLe.refl _⟩) (TkD.nil _)))))
 obtain rfl : m31 = 0 := by omega
 refine GoC.exit rfl ?_
 cases hF27
 exact GoK.meet ⟨rfl, rfl⟩ (EnvD.eq rfl (EnvD.nil)) (TkD.cons _ _ _ _ _ Rem.p0 (HLe.refl _) (TkD.cons _ _ _ _ _ Rem.p0 (HLe.refl _) (TkD.cons _ _ _ _ _ Rem.p0 (HLe.st ⟨⟨trivial, DLe.refl _⟩, DLe.refl _⟩) (TkD.cons _ _ _ _ _ Rem.p0 (HLe.st ⟨⟨trivial, DLe.refl _⟩, DLe.refl _⟩) (TkD.nil _)))))
 rintro v h ⟨rfl, rfl⟩
 have H := HK26; clear HK26
 refine GoK.code ?_
 refine GoC.seq ?_
 refine GoC.region ?_
 refine GoO.pure (ps_move rfl rfl) ?_
 refine GoO.pure (ps_assign rfl rfl) ?_
 refine GoO.nil ?_
 refine GoK.code ?_
 obtain rfl := Option.some.inj H
 exact GoC.retL (ds := [.v (.int .i64 x29)]) Try.results28 (ResL.cons (ResD.tmp rfl) (ResL.nil)) (Take.nil _) ⟨rfl, rfl⟩

def weirref_Ones_B1 (s : Int) : Nat → Int → Option (Int) := fun k6 x1 =>
 ck (InI (x1 + (bitsOf .and .i64 (Int.fdiv s (2 ^ min k6 64)) 1))) <|
 some (x1 + (bitsOf .and .i64 (Int.fdiv s (2 ^ min k6 64)) 1))
def weirref_Ones_F (s : Int) : Option (Int) :=
 (forN (weirref_Ones_B1 s) 16 0 0).bind fun x5 =>
 some x5
def weirref_Ones_P (out : Int) (d : D) (H : List HL) : Prop := d = .v (.int .i64 out) ∧ H = []
theorem weirref_Ones_I (out : Int) : IndepP (weirref_Ones_P out) := IndepP.of (by rintro _ _ ⟨rfl, rfl⟩; exact ⟨inferInstance, inferInstance⟩)
set_option maxRecDepth 100000 in
set_option maxHeartbeats 4000000 in
theorem weirref_Ones_spec (s : Int) {out : Int} (H : weirref_Ones_F s = some out) : Does Try.prog 29 [.v (.int .i64 s)] [] (weirref_Ones_P out) := by
 unfold weirref_Ones_F at H
 refine Does.intro Try.func29 rfl Try.ntmps29 rfl fun w0 I0 => ?_
 refine GoC.seq ?_
 refine GoC.region ?_
 refine GoO.pure (ps_assign rfl rfl) ?_
 refine GoO.nil ?_
 refine GoK.code ?_
 refine GoC.seq ?_
 refine GoC.region ?_
 refine GoO.pure (ps_assign rfl rfl) ?_
 refine GoO.nil ?_
 refine GoK.code ?_
 refine GoC.seq ?_
 refine GoC.seq ?_
 refine GoC.region ?_
 refine GoO.pure (ps_move rfl rfl) ?_
 refine GoO.nil ?_
 refine GoK.code ?_
 have hb := bind_l H; clear H
 obtain ⟨x5, hl9, HK2⟩ := hb
 refine GoC.blockJ [] [] (fun v h => v = [(3, .v (.int .i64 x5))] ∧ h = []) ?_ ?_
 refine GoC.loopJ [(0, _)] [] (fun mQ v h => ∃ (k6 : Nat) (x1 : Int), (k6 + mQ = 16 ∧ forN (weirref_Ones_B1 s) mQ k6 x1 = some x5) ∧ v = [(5, .v (.int .i64 ((k6 : Nat) : Int))), (3, .v (.int .i64 x1))] ∧ h = []) 16 ⟨_, _, ⟨by omega, hl9⟩, rfl, rfl⟩ (EnvD.eq rfl (EnvD.eq rfl (EnvD.eq rfl (EnvD.nil)))) (TkD.nil _) ?_
 rintro m7 v h ⟨k6, x1, ⟨hkk6, hF3⟩, rfl, rfl⟩
 refine GoC.seq ?_
 refine GoC.region ?_
 refine GoO.pure (ps_lss rfl rfl rfl) ?_
 refine GoO.nil ?_
 refine GoK.code ?_
 refine GoC.seq ?_
 refine GoC.condD rfl (fun (hk6 : (k6 : Int) < ((16 : Nat) : Int)) => ?_) (fun (hk6 : ¬ (k6 : Int) < ((16 : Nat) : Int)) => ?_)
 obtain ⟨m7', rfl⟩ : ∃ x, m7 = x + 1 := ⟨m7 - 1, by omega⟩
 have hb := bind_l hF3; clear hF3
 obtain ⟨qrm7, H, hF3⟩ := hb
 have hnk6 : k6 < 16 := by omega
 have hIk6 : InI ((k6 : Int) + 1) := inI_cnt hk6 (by unfold InI; omega)
 refine GoC.skip ?_
 refine GoK.code ?_
 refine GoC.seq ?_
 refine GoC.block ?_
 refine GoC.seq ?_
 refine GoC.region ?_
 refine GoO.pure (ps_move rfl rfl) ?_
 refine GoO.pure (ps_assign rfl rfl) ?_
 refine GoO.nil ?_
 refine GoK.code ?_
 refine GoC.region ?_
 refine GoO.pure (ps_move rfl rfl) ?_
 refine GoO.pure (ps_move rfl rfl) ?_
 refine GoO.pure (ps_move rfl rfl) ?_
 refine GoO.pure (ps_shr rfl rfl rfl (by omega)) ?_
 refine GoO.pure (ps_and rfl rfl rfl) ?_
 have c8 := ck_l H; replace H := ck_r H
 refine GoO.pure (ps_add rfl rfl rfl c8) ?_
 refine GoO.pure (ps_assign rfl rfl) ?_
 refine GoO.nil ?_
 refine GoK.blk ?_
 refine GoK.code ?_
 refine GoC.region ?_
 refine GoO.pure (ps_add rfl rfl rfl hIk6) ?_
 refine GoO.pure (ps_move rfl rfl) ?_
 refine GoO.nil ?_
 obtain rfl := Option.some.inj H
 exact GoK.againJ m7' (by omega) ⟨_, _, ⟨by omega, hF3⟩, rfl, rfl⟩ (EnvD.eq rfl (EnvD.eq rfl (EnvD.eq rfl (EnvD.nil)))) (TkD.nil _)
 obtain rfl : m7 = 0 := by omega
 refine GoC.exit rfl ?_
 cases hF3
 exact GoK.meet ⟨rfl, rfl⟩ (EnvD.eq rfl (EnvD.nil)) (TkD.nil _)
 rintro v h ⟨rfl, rfl⟩
 have H := HK2; clear HK2
 refine GoK.code ?_
 refine GoC.seq ?_
 refine GoC.region ?_
 refine GoO.pure (ps_move rfl rfl) ?_
 refine GoO.pure (ps_assign rfl rfl) ?_
 refine GoO.nil ?_
 refine GoK.code ?_
 obtain rfl := Option.some.inj H
 exact GoC.retL (ds := [.v (.int .i64 x5)]) Try.results29 (ResL.cons (ResD.tmp rfl) (ResL.nil)) (Take.nil _) ⟨rfl, rfl⟩

end Go.Proofs.Ytdpkdicciclobaa
