/- The functions walk.Parts, walk.both, walk.Sides, told as plain functions, and that the code does as they say. -/
import Derived.Test.YtdpkdicciclobaaTys
import Derived.Test.YtdpkdicciclobaaDat
import Derived.Test.YtdpkdicciclobaaGgraph
namespace Go.Proofs.Ytdpkdicciclobaa
open Go Go.Proofs.Ytdpkdicciclobaa.Sx
set_option linter.unusedVariables false
set_option linter.unusedSimpArgs false
def walk_Parts_B1 : Nat → (List Int) → Option ((List Int)) := fun k13 l8 =>
 ck (k13 < l8.length) <|
 some (l8.set k13 ((k13 : Nat) : Int))
def walk_Parts_B3 (g : Graph) : Nat → (List Int) → Option ((List Int)) := fun k31 l26 =>
 ck (0 ≤ (g.as.getD k31 El.d).f ∧ (g.as.getD k31 El.d).f < ((l26.length : Nat) : Int)) <|
 ck (0 ≤ (g.as.getD k31 El.d).t ∧ (g.as.getD k31 El.d).t < ((l26.length : Nat) : Int)) <|
 some ((l26.set (((g.as.getD k31 El.d).f).toNat) (min (l26.getD (((g.as.getD k31 El.d).f).toNat) (0 : Int)) (l26.getD (((g.as.getD k31 El.d).t).toNat) (0 : Int)))).set (((g.as.getD k31 El.d).t).toNat) (min (l26.getD (((g.as.getD k31 El.d).f).toNat) (0 : Int)) (l26.getD (((g.as.getD k31 El.d).t).toNat) (0 : Int))))
def walk_Parts_B2 (g : Graph) : Nat → (List Int) → Option ((List Int)) := fun k23 l18 =>
 (forN (walk_Parts_B3 g) g.as.length 0 l18).bind fun l30 =>
 some l30
def walk_Parts_F (g : Graph) : Option ((List Int) × Int) :=
 (graph_CheckLong_F g).bind fun r2 =>
 if r2 ≠ 0 then
  some ([], r2)
 else
  ck (0 ≤ g.n ∧ g.n ≤ 10000000000) <|
  (forN (walk_Parts_B1) g.n.toNat 0 (List.replicate g.n.toNat (0 : Int))).bind fun l12 =>
  ck (InI g.n) <|
  (forN (walk_Parts_B2 g) g.n.toNat 0 l12).bind fun l22 =>
  some (l22, 0)
def walk_Parts_P (out : (List Int) × Int) (d : D) (H : List HL) : Prop := ∃ β1 : BK, d = .tp 2 (nth [.own β1 1 0 out.1.length, .v (.int .i64 out.2)]) ∧ H = [.one β1 3 1 (row out.1)]
theorem walk_Parts_I (out : (List Int) × Int) : IndepP (walk_Parts_P out) := IndepP.of (by rintro _ _ ⟨β1, rfl, rfl⟩; exact ⟨inferInstance, inferInstance⟩)
set_option maxRecDepth 100000 in
set_option maxHeartbeats 4000000 in
theorem walk_Parts_spec (g : Graph) {out : (List Int) × Int} (H : walk_Parts_F g = some out) : Does Try.prog 46 [.ag 2 (nth [.v (.int .i64 g.n), slD g.as])] [] (walk_Parts_P out) := by
 unfold walk_Parts_F at H
 refine Does.intro Try.func46 rfl Try.ntmps46 rfl fun w0 I0 => ?_
 refine GoC.seq ?_
 refine GoC.region ?_
 refine GoO.effB (ef_boxAg rfl rfl) (fun β1 => ?_)
 refine GoO.pure (ps_assign rfl rfl) ?_
 refine GoO.pure (ps_assign rfl rfl) ?_
 refine GoO.nil ?_
 refine GoK.code ?_
 refine GoC.seq ?_
 refine GoC.seq ?_
 refine GoC.region ?_
 refine GoO.pure (ps_loadAg rfl At.p0 At.p0 Nat.zero_lt_one rfl rfl) ?_
 have hb := bind_l H; clear H
 obtain ⟨r2, e3, H⟩ := hb
 refine GoO.effC (ef_call rfl (Take.nil _) (Take.nil _) (graph_CheckLong_spec g e3) (LendL.cons (Lend.agA ⟨⟨trivial, Lend.refl _ _⟩, Lend.refl _ _⟩) (LendL.nil)) rfl (graph_CheckLong_I (r2))) (fun rr HH hp => ?_)
 obtain ⟨rfl, rfl⟩ := hp
 refine GoO.pure (ps_assign rfl rfl) ?_
 refine GoO.nil ?_
 refine GoK.code ?_
 refine GoC.seq ?_
 refine GoC.region ?_
 refine GoO.pure (ps_move rfl rfl) ?_
 refine GoO.pure (ps_neq rfl rfl rfl) ?_
 refine GoO.nil ?_
 refine GoK.code ?_
 refine GoC.condD rfl (fun h4 => ?_) (fun h4 => ?_)
 replace H := ite_t h4 H
 refine GoC.seq ?_
 refine GoC.region ?_
 refine GoO.pure (ps_move rfl rfl) ?_
 refine GoO.pure (ps_assign rfl rfl) ?_
 refine GoO.pure (ps_assign rfl rfl) ?_
 refine GoO.nil ?_
 refine GoK.code ?_
 obtain rfl := Option.some.inj H
 refine GoC.le (le_row0 3 1 (row ([] : List Int)) rfl) ?_
 exact GoC.retL (ds := [.own ⟨0, 0, 0⟩ 1 0 0, .v (.int .i64 r2)]) Try.results46 (ResL.cons (ResD.le (ResD.tmp rfl) (by exact DLe.nilOwn)) (ResL.cons (ResD.tmp rfl) (ResL.nil))) (Take.cons _ _ _ _ _ Rem.p0 (Take.nil _)) ⟨⟨0, 0, 0⟩, rfl, rfl⟩
 replace H := ite_f h4 H
 refine GoC.skip ?_
 refine GoK.code ?_
 refine GoC.seq ?_
 refine GoC.region ?_
 refine GoO.pure (ps_fieldAddr rfl rfl) ?_
 refine GoO.pure (ps_load rfl At.p0 At.p0 Nat.zero_lt_one rfl rfl) ?_
 have c6 := ck_l H; replace H := ck_r H
 refine GoO.effB (ef_makeZ rfl rfl c6 rfl rfl rfl) (fun β5 => ?_)
 refine GoO.le (Le.reH At.p0 (HLe.zeros (α := Int) ⟨trivial, DLe.refl _⟩)) ?_
 refine GoO.pure (ps_assign rfl rfl) ?_
 refine GoO.nil ?_
 refine GoK.code ?_
 refine GoC.seq ?_
 refine GoC.seq ?_
 refine GoC.region ?_
 refine GoO.pure (ps_move rfl rfl) ?_
 refine GoO.pure (ps_len rfl (by constructor) rfl) ?_
 refine GoO.lenLe (n := g.n.toNat) (x := .tmp 18) rfl (by constructor) own_lenLe (fun ml7 => ?_)
 refine GoO.pure (ps_move rfl rfl) ?_
 refine GoO.nil ?_
 refine GoK.code ?_
 have hb := bind_l H; clear H
 obtain ⟨l12, hl16, HK9⟩ := hb
 refine GoC.blockJ [(1, .ptr β1 2 0 0)] [.one β1 33 2 (st1 (nth [.v (.int .i64 g.n), slD g.as]))] (fun v h => v = [(5, .own β5 1 0 l12.length)] ∧ h = [.one β5 3 1 (row l12)]) ?_ ?_
 refine GoC.loopJ [(1, _), (19, _)] [.one β1 33 2 (st1 (nth [.v (.int .i64 g.n), slD g.as]))] (fun mQ v h => ∃ (k13 : Nat) (l8 : (List Int)), (k13 + mQ = g.n.toNat ∧ forN (walk_Parts_B1) mQ k13 l8 = some l12) ∧ v = [(20, .v (.int .i64 ((k13 : Nat) : Int))), (5, .own β5 1 0 l8.length)] ∧ h = [.one β5 3 1 (row l8)]) g.n.toNat ⟨_, _, ⟨by omega, hl16⟩, rfl, rfl⟩ (EnvD.eq rfl (EnvD.cons rfl (DLe.len (by first | rfl | omega | (simp only [row_len, gridC_len, rowO_len, List.length_replicate] <;> first | rfl | omega))) (EnvD.eq rfl (EnvD.eq rfl (EnvD.nil))))) (TkD.cons _ _ _ _ _ Rem.p0 (HLe.refl _) (TkD.cons _ _ _ _ _ Rem.p0 (HLe.st ⟨⟨trivial, DLe.refl _⟩, DLe.refl _⟩) (TkD.nil _))) ?_
 rintro m14 v h ⟨k13, l8, ⟨hkk13, hF10⟩, rfl, rfl⟩
 refine GoC.seq ?_
 refine GoC.region ?_
 refine GoO.pure (ps_lss rfl rfl rfl) ?_
 refine GoO.nil ?_
 refine GoK.code ?_
 refine GoC.seq ?_
 refine GoC.condD rfl (fun (hk13 : (k13 : Int) < ((g.n.toNat : Nat) : Int)) => ?_) (fun (hk13 : ¬ (k13 : Int) < ((g.n.toNat : Nat) : Int)) => ?_)
 obtain ⟨m14', rfl⟩ : ∃ x, m14 = x + 1 := ⟨m14 - 1, by omega⟩
 have hb := bind_l hF10; clear hF10
 obtain ⟨qrm14, H, hF10⟩ := hb
 have hnk13 : k13 < g.n.toNat := by omega
 have hIk13 : InI ((k13 : Int) + 1) := inI_len hk13 ml7
 refine GoC.skip ?_
 refine GoK.code ?_
 refine GoC.seq ?_
 refine GoC.block ?_
 refine GoC.seq ?_
 refine GoC.region ?_
 refine GoO.pure (ps_move rfl rfl) ?_
 refine GoO.pure (ps_assign rfl rfl) ?_
 refine GoO.nil ?_
 refine GoK.code ?_
 refine GoC.region ?_
 refine GoO.pure (ps_move rfl rfl) ?_
 refine GoO.pure (ps_move rfl rfl) ?_
 refine GoO.pure (ps_move rfl rfl) ?_
 have c15 := ck_l H; replace H := ck_r H
 refine GoO.pure (ps_indexAddr0N rfl rfl c15 rfl) ?_
 refine GoO.eff1 (ef_store rfl rfl rfl At.p0 (upd_row1 (v := ((k13 : Nat) : Int)) rfl) c15 rfl) ?_
 refine GoO.nil ?_
 refine GoK.blk ?_
 refine GoK.code ?_
 refine GoC.region ?_
 refine GoO.pure (ps_add rfl rfl rfl hIk13) ?_
 refine GoO.pure (ps_move rfl rfl) ?_
 refine GoO.nil ?_
 obtain rfl := Option.some.inj H
 exact GoK.againJ m14' (by omega) ⟨_, _, ⟨by omega, hF10⟩, rfl, rfl⟩ (EnvD.eq rfl (EnvD.cons rfl (DLe.len (by first | rfl | omega | (simp only [row_len, gridC_len, rowO_len, List.length_set] <;> first | rfl | omega))) (EnvD.eq rfl (EnvD.eq rfl (EnvD.nil))))) (TkD.cons _ _ _ _ _ Rem.p0 (HLe.refl _) (TkD.cons _ _ _ _ _ Rem.p0 (HLe.st ⟨⟨trivial, DLe.refl _⟩, DLe.refl _⟩) (TkD.nil _)))
 obtain rfl : m14 = 0 := by omega
 refine GoC.exit rfl ?_
 cases hF10
 exact GoK.meet ⟨rfl, rfl⟩ (EnvD.cons rfl (DLe.len (by first | rfl | omega | (simp only [row_len, gridC_len, rowO_len] <;> first | rfl | omega))) (EnvD.eq rfl (EnvD.nil))) (TkD.cons _ _ _ _ _ Rem.p0 (HLe.refl _) (TkD.cons _ _ _ _ _ Rem.p0 (HLe.st ⟨⟨trivial, DLe.refl _⟩, DLe.refl _⟩) (TkD.nil _)))
 rintro v h ⟨rfl, rfl⟩
 have H := HK9; clear HK9
 refine GoK.code ?_
 refine GoC.seq ?_
 refine GoC.seq ?_
 refine GoC.region ?_
 refine GoO.pure (ps_fieldAddr rfl rfl) ?_
 refine GoO.pure (ps_load rfl At.p1 At.p1 Nat.zero_lt_one rfl rfl) ?_
 refine GoO.pure (ps_move rfl rfl) ?_
 refine GoO.nil ?_
 refine GoK.code ?_
 have c17 := ck_l H; replace H := ck_r H
 have hb := bind_l H; clear H
 obtain ⟨l22, hl37, HK19⟩ := hb
 refine GoC.blockJ [] [.one β1 33 2 (st1 (nth [.v (.int .i64 g.n), slD g.as]))] (fun v h => v = [(5, .own β5 1 0 l22.length)] ∧ h = [.one β5 3 1 (row l22)]) ?_ ?_
 refine GoC.loopJ [(1, _), (29, _)] [.one β1 33 2 (st1 (nth [.v (.int .i64 g.n), slD g.as]))] (fun mQ v h => ∃ (k23 : Nat) (l18 : (List Int)), (k23 + mQ = g.n.toNat ∧ forN (walk_Parts_B2 g) mQ k23 l18 = some l22) ∧ v = [(30, .v (.int .i64 ((k23 : Nat) : Int))), (5, .own β5 1 0 l18.length)] ∧ h = [.one β5 3 1 (row l18)]) g.n.toNat ⟨_, _, ⟨by omega, hl37⟩, rfl, rfl⟩ (EnvD.eq rfl (EnvD.cons rfl (DLe.len (by first | rfl | omega | (simp only [row_len, gridC_len, rowO_len] <;> first | rfl | omega))) (EnvD.eq rfl (EnvD.eq rfl (EnvD.nil))))) (TkD.cons _ _ _ _ _ Rem.p0 (HLe.refl _) (TkD.cons _ _ _ _ _ Rem.p0 (HLe.st ⟨⟨trivial, DLe.refl _⟩, DLe.refl _⟩) (TkD.nil _))) ?_
 rintro m24 v h ⟨k23, l18, ⟨hkk23, hF20⟩, rfl, rfl⟩
 refine GoC.seq ?_
 refine GoC.region ?_
 refine GoO.pure (ps_lss rfl rfl rfl) ?_
 refine GoO.nil ?_
 refine GoK.code ?_
 refine GoC.seq ?_
 refine GoC.condD rfl (fun (hk23 : (k23 : Int) < g.n) => ?_) (fun (hk23 : ¬ (k23 : Int) < g.n) => ?_)
 obtain ⟨m24', rfl⟩ : ∃ x, m24 = x + 1 := ⟨m24 - 1, by omega⟩
 have hb := bind_l hF20; clear hF20
 obtain ⟨qrm24, H, hF20⟩ := hb
 have hnk23 : k23 < g.n.toNat := by omega
 have hIk23 : InI ((k23 : Int) + 1) := inI_cnt hk23 c17
 refine GoC.skip ?_
 refine GoK.code ?_
 refine GoC.seq ?_
 refine GoC.block ?_
 refine GoC.seq ?_
 refine GoC.region ?_
 refine GoO.pure (ps_fieldAddr rfl rfl) ?_
 refine GoO.pure (ps_load rfl At.p1 At.p1 Nat.zero_lt_one rfl rfl) ?_
 refine GoO.pure (ps_len rfl (by constructor) rfl) ?_
 refine GoO.lenLe (n := g.as.length) (x := .tmp 33) rfl (by constructor) sl_lenLe (fun ml25 => ?_)
 refine GoO.pure (ps_move rfl rfl) ?_
 refine GoO.nil ?_
 refine GoK.code ?_
 have hb := bind_l H; clear H
 obtain ⟨l30, hl36, HK27⟩ := hb
 refine GoC.blockJ [(1, .ptr β1 2 0 0), (29, .v (.int .i64 g.n)), (30, .v (.int .i64 ((k23 : Nat) : Int)))] [.one β1 33 2 (st1 (nth [.v (.int .i64 g.n), slD g.as]))] (fun v h => v = [(5, .own β5 1 0 l30.length)] ∧ h = [.one β5 3 1 (row l30)]) ?_ ?_
 refine GoC.loopJ [(1, _), (29, _), (30, _), (33, _), (34, _)] [.one β1 33 2 (st1 (nth [.v (.int .i64 g.n), slD g.as]))] (fun mQ v h => ∃ (k31 : Nat) (l26 : (List Int)), (k31 + mQ = g.as.length ∧ forN (walk_Parts_B3 g) mQ k31 l26 = some l30) ∧ v = [(35, .v (.int .i64 ((k31 : Nat) : Int))), (5, .own β5 1 0 l26.length)] ∧ h = [.one β5 3 1 (row l26)]) g.as.length ⟨_, _, ⟨by omega, hl36⟩, rfl, rfl⟩ (EnvD.eq rfl (EnvD.cons rfl (DLe.len (by first | rfl | omega | (simp only [row_len, gridC_len, rowO_len] <;> first | rfl | omega))) (EnvD.eq rfl (EnvD.eq rfl (EnvD.eq rfl (EnvD.eq rfl (EnvD.eq rfl (EnvD.nil)))))))) (TkD.cons _ _ _ _ _ Rem.p0 (HLe.refl _) (TkD.cons _ _ _ _ _ Rem.p0 (HLe.st ⟨⟨trivial, DLe.refl _⟩, DLe.refl _⟩) (TkD.nil _))) ?_
 rintro m32 v h ⟨k31, l26, ⟨hkk31, hF28⟩, rfl, rfl⟩
 refine GoC.seq ?_
 refine GoC.region ?_
 refine GoO.pure (ps_lss rfl rfl rfl) ?_
 refine GoO.nil ?_
 refine GoK.code ?_
 refine GoC.seq ?_
 refine GoC.condD rfl (fun (hk31 : (k31 : Int) < ((g.as.length : Nat) : Int)) => ?_) (fun (hk31 : ¬ (k31 : Int) < ((g.as.length : Nat) : Int)) => ?_)
 obtain ⟨m32', rfl⟩ : ∃ x, m32 = x + 1 := ⟨m32 - 1, by omega⟩
 have hb := bind_l hF28; clear hF28
 obtain ⟨qrm32, H, hF28⟩ := hb
 have hnk31 : k31 < g.as.length := by omega
 have hIk31 : InI ((k31 : Int) + 1) := inI_len hk31 ml25
 refine GoC.skip ?_
 refine GoK.code ?_
 refine GoC.seq ?_
 refine GoC.block ?_
 refine GoC.seq ?_
 refine GoC.region ?_
 refine GoO.pure (ps_indexAddrRN rfl rfl hnk31 rfl) ?_
 refine GoO.pure (ps_loadAgR rfl hnk31 rfl rfl) ?_
 refine GoO.effB (ef_alloc rfl) (fun β33 => ?_)
 refine GoO.eff1 (ef_storeAg rfl rfl At.p0 upd_whole Nat.zero_lt_one rfl) ?_
 refine GoO.nil ?_
 refine GoK.code ?_
 refine GoC.seq ?_
 refine GoC.drawA (.q 0 (.q 1 (.q 2 (.q 3 (.q 4 (.q 5 (.q 6 (.q 7 (.q 8 (.q 9 (.q 10 (.q 11 (.done))))))))))))) follows (by kernel_rfl) ?_
 refine GoP.qN rfl (ps_move rfl rfl) ?_
 refine GoP.qN rfl (ps_fieldAddr rfl rfl) ?_
 refine GoP.qN rfl (ps_load rfl At.p0 At.p0 Nat.zero_lt_one rfl rfl) ?_
 have c34 := ck_l H; replace H := ck_r H
 refine GoP.qN rfl (ps_indexAddr0 rfl rfl c34 rfl) ?_
 refine GoP.qN rfl (ps_load rfl At.p1 At.p1 (idx_lt c34) rfl rfl) ?_
 refine GoP.qN rfl (ps_move rfl rfl) ?_
 refine GoP.qN rfl (ps_fieldAddr rfl rfl) ?_
 refine GoP.qN rfl (ps_load rfl At.p0 At.p0 Nat.zero_lt_one rfl rfl) ?_
 have c35 := ck_l H; replace H := ck_r H
 refine GoP.qN rfl (ps_indexAddr0 rfl rfl c35 rfl) ?_
 refine GoP.qN rfl (ps_load rfl At.p1 At.p1 (idx_lt c35) rfl rfl) ?_
 refine GoP.qN rfl (ps_min rfl rfl rfl) ?_
 refine GoP.qN rfl (ps_assign rfl rfl) ?_
 refine GoP.done ?_
 refine GoK.code ?_
 refine GoC.drawP (.q 0 (.q 1 (.q 2 (.q 3 (.q 4 (.q 5 (.q 6 (.q 7 (.q 8 (.one 9 (.q 10 (.one 11 (.done))))))))))))) [(8, _, _, _)] follows (by kernel_rfl) (Take.cons _ _ _ _ _ Rem.p0 (Take.nil _)) ?_
 refine GoP.qN rfl (ps_move rfl rfl) ?_
 refine GoP.qN rfl (ps_fieldAddr rfl rfl) ?_
 refine GoP.qN rfl (ps_load rfl At.p0 At.p0 Nat.zero_lt_one rfl rfl) ?_
 refine GoP.qN rfl (ps_move rfl rfl) ?_
 refine GoP.qN rfl (ps_fieldAddr rfl rfl) ?_
 refine GoP.qN rfl (ps_load rfl At.p0 At.p0 Nat.zero_lt_one rfl rfl) ?_
 refine GoP.qN rfl (ps_move rfl rfl) ?_
 refine GoP.qN rfl (ps_move rfl rfl) ?_
 refine GoP.qN rfl (ps_indexAddr0 rfl rfl c34 rfl) ?_
 refine GoP.one1 rfl trivial (ef_store rfl rfl rfl At.p1 (upd_row1 (v := (min (l26.getD (((g.as.getD k31 El.d).f).toNat) (0 : Int)) (l26.getD (((g.as.getD k31 El.d).t).toNat) (0 : Int)))) rfl) (idx_lt c34) rfl) (Take.cons _ _ _ _ _ Rem.p1 (Take.cons _ _ _ _ _ Rem.p0 (Take.nil _))) ?_
 refine GoP.qN rfl (ps_indexAddr0 rfl rfl c35 rfl) ?_
 refine GoP.one1 rfl trivial (ef_store rfl rfl rfl At.p1 (upd_row1 (v := (min (l26.getD (((g.as.getD k31 El.d).f).toNat) (0 : Int)) (l26.getD (((g.as.getD k31 El.d).t).toNat) (0 : Int)))) rfl) (lt_len (idx_lt c35) (by first | rfl | omega | (simp only [row_len, gridC_len, rowO_len, List.length_set] <;> first | rfl | omega))) rfl) (Take.cons _ _ _ _ _ Rem.p1 (Take.cons _ _ _ _ _ Rem.p0 (Take.nil _))) ?_
 refine GoP.done ?_
 refine GoK.blk ?_
 refine GoK.code ?_
 refine GoC.region ?_
 refine GoO.pure (ps_add rfl rfl rfl hIk31) ?_
 refine GoO.pure (ps_move rfl rfl) ?_
 refine GoO.nil ?_
 obtain rfl := Option.some.inj H
 exact GoK.againJ m32' (by omega) ⟨_, _, ⟨by omega, hF28⟩, rfl, rfl⟩ (EnvD.eq rfl (EnvD.cons rfl (DLe.len (by first | rfl | omega | (simp only [row_len, gridC_len, rowO_len, List.length_set] <;> first | rfl | omega))) (EnvD.eq rfl (EnvD.eq rfl (EnvD.eq rfl (EnvD.eq rfl (EnvD.eq rfl (EnvD.nil)))))))) (TkD.cons _ _ _ _ _ Rem.p1 (HLe.refl _) (TkD.cons _ _ _ _ _ Rem.p1 (HLe.st ⟨⟨trivial, DLe.refl _⟩, DLe.refl _⟩) (TkD.nil _)))
 obtain rfl : m32 = 0 := by omega
 refine GoC.exit rfl ?_
 cases hF28
 exact GoK.meet ⟨rfl, rfl⟩ (EnvD.cons rfl (DLe.len (by first | rfl | omega | (simp only [row_len, gridC_len, rowO_len] <;> first | rfl | omega))) (EnvD.eq rfl (EnvD.eq rfl (EnvD.eq rfl (EnvD.nil))))) (TkD.cons _ _ _ _ _ Rem.p0 (HLe.refl _) (TkD.cons _ _ _ _ _ Rem.p0 (HLe.st ⟨⟨trivial, DLe.refl _⟩, DLe.refl _⟩) (TkD.nil _)))
 rintro v h ⟨rfl, rfl⟩
 have H := HK27; clear HK27
 refine GoK.blk ?_
 refine GoK.code ?_
 refine GoC.region ?_
 refine GoO.pure (ps_add rfl rfl rfl hIk23) ?_
 refine GoO.pure (ps_move rfl rfl) ?_
 refine GoO.nil ?_
 obtain rfl := Option.some.inj H
 exact GoK.againJ m24' (by omega) ⟨_, _, ⟨by omega, hF20⟩, rfl, rfl⟩ (EnvD.eq rfl (EnvD.cons rfl (DLe.len (by first | rfl | omega | (simp only [row_len, gridC_len, rowO_len] <;> first | rfl | omega))) (EnvD.eq rfl (EnvD.eq rfl (EnvD.nil))))) (TkD.cons _ _ _ _ _ Rem.p0 (HLe.refl _) (TkD.cons _ _ _ _ _ Rem.p0 (HLe.st ⟨⟨trivial, DLe.refl _⟩, DLe.refl _⟩) (TkD.nil _)))
 obtain rfl : m24 = 0 := by omega
 refine GoC.exit rfl ?_
 cases hF20
 exact GoK.meet ⟨rfl, rfl⟩ (EnvD.cons rfl (DLe.len (by first | rfl | omega | (simp only [row_len, gridC_len, rowO_len] <;> first | rfl | omega))) (EnvD.nil)) (TkD.cons _ _ _ _ _ Rem.p0 (HLe.refl _) (TkD.cons _ _ _ _ _ Rem.p0 (HLe.st ⟨⟨trivial, DLe.refl _⟩, DLe.refl _⟩) (TkD.nil _)))
 rintro v h ⟨rfl, rfl⟩
 have H := HK19; clear HK19
 refine GoK.code ?_
 refine GoC.seq ?_
 refine GoC.region ?_
 refine GoO.pure (ps_move rfl rfl) ?_
 refine GoO.pure (ps_assign rfl rfl) ?_
 refine GoO.pure (ps_assign rfl rfl) ?_
 refine GoO.nil ?_
 refine GoK.code ?_
 obtain rfl := Option.some.inj H
 exact GoC.retL (ds := [.own β5 1 0 l22.length, .v (.int .i64 0)]) Try.results46 (ResL.cons (ResD.tmp rfl) (ResL.cons (ResD.tmp rfl) (ResL.nil))) (Take.cons _ _ _ _ _ Rem.p0 (Take.nil _)) ⟨β5, rfl, rfl⟩

def walk_both_B1 (g : Graph) : Nat → (List Arc) → Option ((List Arc)) := fun k11 l6 =>
 ck (l6.length + 2 ≤ 5864062014805) <|
 some (l6 ++ ([(g.as.getD k11 El.d), (⟨(g.as.getD k11 El.d).t, (g.as.getD k11 El.d).f, 0⟩ : Arc)] : List Arc))
def walk_both_F (g : Graph) : Option (Graph) :=
 (forN (walk_both_B1 g) g.as.length 0 []).bind fun l10 =>
 some (⟨g.n, l10⟩ : Graph)
def walk_both_P (out : Graph) (d : D) (H : List HL) : Prop := ∃ β1 : BK, d = .ag 2 (nth [.v (.int .i64 out.n), .own β1 3 0 out.as.length]) ∧ H = [.one β1 39 3 (row out.as)]
theorem walk_both_I (out : Graph) : IndepP (walk_both_P out) := IndepP.of (by rintro _ _ ⟨β1, rfl, rfl⟩; exact ⟨inferInstance, inferInstance⟩)
set_option maxRecDepth 100000 in
set_option maxHeartbeats 4000000 in
theorem walk_both_spec (g : Graph) {out : Graph} (H : walk_both_F g = some out) : Does Try.prog 84 [.ag 2 (nth [.v (.int .i64 g.n), slD g.as])] [] (walk_both_P out) := by
 unfold walk_both_F at H
 refine Does.intro Try.func84 rfl Try.ntmps84 rfl fun w0 I0 => ?_
 refine GoC.seq ?_
 refine GoC.region ?_
 refine GoO.effB (ef_boxAg rfl rfl) (fun β1 => ?_)
 refine GoO.effB (ef_alloc rfl) (fun β2 => ?_)
 refine GoO.nil ?_
 refine GoK.code ?_
 refine GoC.seq ?_
 refine GoC.region ?_
 refine GoO.pure (ps_fieldAddr rfl rfl) ?_
 refine GoO.pure (ps_load rfl At.p1 At.p1 Nat.zero_lt_one rfl rfl) ?_
 refine GoO.pure (ps_build (Parts.cons _ _ _ _ _ _ _ _ FdP.of (Part.one _ rfl rfl) rfl rfl (Parts.nil _)) rfl) ?_
 refine GoO.effB (ef_alloc rfl) (fun β3 => ?_)
 refine GoO.eff1 (ef_storeAg rfl rfl At.p0 upd_whole Nat.zero_lt_one rfl) ?_
 refine GoO.nil ?_
 refine GoK.code ?_
 refine GoC.seq ?_
 refine GoC.seq ?_
 refine GoC.region ?_
 refine GoO.pure (ps_fieldAddr rfl rfl) ?_
 refine GoO.pure (ps_load rfl At.p2 At.p2 Nat.zero_lt_one rfl rfl) ?_
 refine GoO.pure (ps_len rfl (by constructor) rfl) ?_
 refine GoO.lenLe (n := g.as.length) (x := .tmp 10) rfl (by constructor) sl_lenLe (fun ml4 => ?_)
 refine GoO.pure (ps_move rfl rfl) ?_
 refine GoO.nil ?_
 refine GoK.code ?_
 have hb := bind_l H; clear H
 obtain ⟨l10, hl17, HK7⟩ := hb
 refine GoC.blockJ [(2, .ptr β2 2 0 0)] [.one β2 33 2 (st1 (nth [.v (.int .i64 0), .v (.slice none 0 0)])), .one β1 33 2 (st1 (nth [.v (.int .i64 g.n), slD g.as]))] (fun v h => ∃ (β5 : BK), v = [(3, .ptr β3 2 0 0)] ∧ h = [.one β5 39 3 (row l10), .one β3 33 2 (st1 (nth [.v (.int .i64 g.n), .own β5 3 0 l10.length]))]) ?_ ?_
 refine GoC.loopJ [(2, _), (10, _), (11, _)] [.one β2 33 2 (st1 (nth [.v (.int .i64 0), .v (.slice none 0 0)])), .one β1 33 2 (st1 (nth [.v (.int .i64 g.n), slD g.as]))] (fun mQ v h => ∃ (k11 : Nat) (l6 : (List Arc)) (β5 : BK), (k11 + mQ = g.as.length ∧ forN (walk_both_B1 g) mQ k11 l6 = some l10) ∧ v = [(12, .v (.int .i64 ((k11 : Nat) : Int))), (3, .ptr β3 2 0 0)] ∧ h = [.one β5 39 3 (row l6), .one β3 33 2 (st1 (nth [.v (.int .i64 g.n), .own β5 3 0 l6.length]))]) g.as.length ⟨_, _, ⟨0, 0, 0⟩, ⟨by omega, hl17⟩, rfl, rfl⟩ (EnvD.eq rfl (EnvD.eq rfl (EnvD.eq rfl (EnvD.eq rfl (EnvD.eq rfl (EnvD.nil)))))) (TkD.no _ _ _ _ _ rfl (TkD.cons _ _ _ _ _ Rem.p0 (HLe.st ⟨⟨trivial, DLe.refl _⟩, DLe.nilOwn⟩) (TkD.cons _ _ _ _ _ Rem.p0 (HLe.st ⟨⟨trivial, DLe.refl _⟩, DLe.refl _⟩) (TkD.cons _ _ _ _ _ Rem.p0 (HLe.st ⟨⟨trivial, DLe.refl _⟩, DLe.refl _⟩) (TkD.nil _))))) ?_
 rintro m12 v h ⟨k11, l6, β5, ⟨hkk11, hF8⟩, rfl, rfl⟩
 refine GoC.seq ?_
 refine GoC.region ?_
 refine GoO.pure (ps_lss rfl rfl rfl) ?_
 refine GoO.nil ?_
 refine GoK.code ?_
 refine GoC.seq ?_
 refine GoC.condD rfl (fun (hk11 : (k11 : Int) < ((g.as.length : Nat) : Int)) => ?_) (fun (hk11 : ¬ (k11 : Int) < ((g.as.length : Nat) : Int)) => ?_)
 obtain ⟨m12', rfl⟩ : ∃ x, m12 = x + 1 := ⟨m12 - 1, by omega⟩
 have hb := bind_l hF8; clear hF8
 obtain ⟨qrm12, H, hF8⟩ := hb
 have hnk11 : k11 < g.as.length := by omega
 have hIk11 : InI ((k11 : Int) + 1) := inI_len hk11 ml4
 refine GoC.skip ?_
 refine GoK.code ?_
 refine GoC.seq ?_
 refine GoC.block ?_
 refine GoC.seq ?_
 refine GoC.region ?_
 refine GoO.pure (ps_indexAddrRN rfl rfl hnk11 rfl) ?_
 refine GoO.pure (ps_loadAgR rfl hnk11 rfl rfl) ?_
 refine GoO.effB (ef_alloc rfl) (fun β13 => ?_)
 refine GoO.eff1 (ef_storeAg rfl rfl At.p0 upd_whole Nat.zero_lt_one rfl) ?_
 refine GoO.nil ?_
 refine GoK.code ?_
 refine GoC.region ?_
 refine GoO.pure (ps_fieldAddr rfl rfl) ?_
 refine GoO.pure (ps_load rfl At.p2 At.p2 Nat.zero_lt_one rfl rfl) ?_
 refine GoO.pure (ps_loadAg rfl At.p0 At.p0 Nat.zero_lt_one rfl rfl) ?_
 refine GoO.pure (ps_fieldAddr rfl rfl) ?_
 refine GoO.pure (ps_load rfl At.p0 At.p0 Nat.zero_lt_one rfl rfl) ?_
 refine GoO.pure (ps_fieldAddr rfl rfl) ?_
 refine GoO.pure (ps_load rfl At.p0 At.p0 Nat.zero_lt_one rfl rfl) ?_
 refine GoO.pure (ps_build (Parts.cons _ _ _ _ _ _ _ _ FdP.of (Part.one _ rfl rfl) rfl rfl (Parts.cons _ _ _ _ _ _ _ _ FdP.of (Part.one _ rfl rfl) rfl rfl (Parts.nil _))) rfl) ?_
 refine GoO.effB (ef_buildSlice (row ([(g.as.getD k11 El.d), (⟨(g.as.getD k11 El.d).t, (g.as.getD k11 El.d).f, 0⟩ : Arc)] : List Arc)) rfl (Parts.cons _ _ _ _ _ _ _ _ ⟨rfl, rfl⟩ (Part.ag _ _ rfl) rfl rfl (Parts.cons _ _ _ _ _ _ _ _ ⟨rfl, rfl⟩ (Part.ag _ _ rfl) rfl rfl (Parts.nil _))) rfl rfl rfl rfl) (fun β14 => ?_)
 have c16 := ck_l H; replace H := ck_r H
 refine GoO.effB (ef_append rfl rfl Rem.p2 (Src.own At.p0 (by first | omega | (simp only [subl_length, cpl_length, List.length_set, List.length_append, List.length_cons, List.length_nil, List.length_replicate, row_len]; omega) | (simp only [subl_length, cpl_length, List.length_set, List.length_append, List.length_cons, List.length_nil, List.length_replicate, row_len]; done))) (cat_row (α := Arc) (by first | rfl | omega | (simp only [subl_length, cpl_length, List.length_set, List.length_append, List.length_cons, List.length_nil, List.length_replicate, row_len] <;> first | rfl | omega)) (by first | rfl | omega | (simp only [subl_length, cpl_length, List.length_set, List.length_append, List.length_cons, List.length_nil, List.length_replicate, row_len] <;> first | rfl | omega)) (fun _ _ _ _ => rfl)) (by first | omega | (simp only [subl_length, cpl_length, List.length_set, List.length_append, List.length_cons, List.length_nil, List.length_replicate, row_len]; omega) | (simp only [subl_length, cpl_length, List.length_set, List.length_append, List.length_cons, List.length_nil, List.length_replicate, row_len]; done)) (app_le c16 rfl) rfl rfl rfl) (fun β15 => ?_)
 refine GoO.pure (ps_fieldAddr rfl rfl) ?_
 refine GoO.eff1 (ef_store rfl rfl rfl At.p3 upd_st1 Nat.zero_lt_one rfl) ?_
 refine GoO.nil ?_
 refine GoK.blk ?_
 refine GoK.code ?_
 refine GoC.region ?_
 refine GoO.pure (ps_add rfl rfl rfl hIk11) ?_
 refine GoO.pure (ps_move rfl rfl) ?_
 refine GoO.nil ?_
 obtain rfl := Option.some.inj H
 exact GoK.againJ m12' (by omega) ⟨_, _, β15, ⟨by omega, hF8⟩, rfl, rfl⟩ (EnvD.eq rfl (EnvD.eq rfl (EnvD.eq rfl (EnvD.eq rfl (EnvD.eq rfl (EnvD.nil)))))) (TkD.cons _ _ _ _ _ Rem.p0 (HLe.refl _) (TkD.cons _ _ _ _ _ Rem.p2 (HLe.st ⟨⟨trivial, DLe.refl _⟩, DLe.len (by first | rfl | omega | (simp only [row_len, gridC_len, rowO_len, List.length_append, List.length_cons, List.length_nil] <;> first | rfl | omega))⟩) (TkD.cons _ _ _ _ _ Rem.p2 (HLe.st ⟨⟨trivial, DLe.refl _⟩, DLe.refl _⟩) (TkD.cons _ _ _ _ _ Rem.p2 (HLe.st ⟨⟨trivial, DLe.refl _⟩, DLe.refl _⟩) (TkD.nil _)))))
 obtain rfl : m12 = 0 := by omega
 refine GoC.exit rfl ?_
 cases hF8
 exact GoK.meet ⟨β5, rfl, rfl⟩ (EnvD.eq rfl (EnvD.eq rfl (EnvD.nil))) (TkD.cons _ _ _ _ _ Rem.p0 (HLe.refl _) (TkD.cons _ _ _ _ _ Rem.p0 (HLe.st ⟨⟨trivial, DLe.refl _⟩, DLe.len (by first | rfl | omega | (simp only [row_len, gridC_len, rowO_len] <;> first | rfl | omega))⟩) (TkD.cons _ _ _ _ _ Rem.p0 (HLe.st ⟨⟨trivial, DLe.refl _⟩, DLe.refl _⟩) (TkD.cons _ _ _ _ _ Rem.p0 (HLe.st ⟨⟨trivial, DLe.refl _⟩, DLe.refl _⟩) (TkD.nil _)))))
 rintro v h ⟨β5, rfl, rfl⟩
 have H := HK7; clear HK7
 refine GoK.code ?_
 refine GoC.seq ?_
 refine GoC.region ?_
 refine GoO.pure (ps_loadAg rfl At.p1 At.p1 Nat.zero_lt_one rfl rfl) ?_
 refine GoO.eff1 (ef_storeAg rfl rfl At.p2 upd_whole Nat.zero_lt_one rfl) ?_
 refine GoO.nil ?_
 refine GoK.code ?_
 obtain rfl := Option.some.inj H
 exact GoC.retL (ds := [.ag 2 (nth [.v (.int .i64 g.n), .own β5 3 0 l10.length])]) Try.results84 (ResL.cons (ResD.le (ResD.cellAg rfl At.p2 Nat.zero_lt_one rfl) (by exact DLe.ag ⟨⟨trivial, DLe.refl _⟩, DLe.refl _⟩)) (ResL.nil)) (Take.cons _ _ _ _ _ Rem.p0 (Take.nil _)) ⟨β5, rfl, rfl⟩

def walk_Sides_B1 (r2 : (List Int)) : Nat → (List Int) → Option ((List Int)) := fun k15 l10 =>
 ck (k15 < l10.length) <|
 if (r2.getD k15 (0 : Int)) = ((k15 : Nat) : Int) then
  some ((l10.set k15 (-1)).set k15 0)
 else
  some (l10.set k15 (-1))
def walk_Sides_B3 (r28 : Graph) : Nat → (List Int) → Option ((List Int)) := fun k37 l32 =>
 ck (0 ≤ (r28.as.getD k37 El.d).f ∧ (r28.as.getD k37 El.d).f < ((l32.length : Nat) : Int)) <|
 if 0 ≤ (l32.getD (((r28.as.getD k37 El.d).f).toNat) (0 : Int)) then
  ck (0 ≤ (r28.as.getD k37 El.d).t ∧ (r28.as.getD k37 El.d).t < ((l32.length : Nat) : Int)) <|
  if (l32.getD (((r28.as.getD k37 El.d).t).toNat) (0 : Int)) < 0 then
   ck (InI (1 - (l32.getD (((r28.as.getD k37 El.d).f).toNat) (0 : Int)))) <|
   some (l32.set (((r28.as.getD k37 El.d).t).toNat) (1 - (l32.getD (((r28.as.getD k37 El.d).f).toNat) (0 : Int))))
  else
   some l32
 else
  some l32
def walk_Sides_B2 (g : Graph) : Nat → (List Int) → Option ((List Int)) := fun k26 l21 =>
 (walk_both_F g).bind fun r28 =>
 (forN (walk_Sides_B3 r28) r28.as.length 0 l21).bind fun l36 =>
 some l36
def walk_Sides_B4 (g : Graph) (l25 : (List Int)) : Nat → Unit → Option (Ct (Unit) ((List Int) × Int)) := fun k51 _ =>
 ck (0 ≤ (g.as.getD k51 El.d).f ∧ (g.as.getD k51 El.d).f < ((l25.length : Nat) : Int)) <|
 ck (0 ≤ (g.as.getD k51 El.d).t ∧ (g.as.getD k51 El.d).t < ((l25.length : Nat) : Int)) <|
 if (l25.getD (((g.as.getD k51 El.d).f).toNat) (0 : Int)) = (l25.getD (((g.as.getD k51 El.d).t).toNat) (0 : Int)) then
  some (.ret ([], 6))
 else
  some (.go ())
def walk_Sides_F (g : Graph) : Option ((List Int) × Int) :=
 (walk_Parts_F g).bind fun (r2, r4) =>
 if r4 ≠ 0 then
  some ([], r4)
 else
  ck (0 ≤ g.n ∧ g.n ≤ 10000000000) <|
  (forN (walk_Sides_B1 r2) r2.length 0 (List.replicate g.n.toNat (0 : Int))).bind fun l14 =>
  ck (InI g.n) <|
  (forN (walk_Sides_B2 g) g.n.toNat 0 l14).bind fun l25 =>
  (forC (walk_Sides_B4 g l25) g.as.length 0 ()).bind fun q => match q with
  | .go _ =>
   some (l25, 0)
  | .ret x => some x
def walk_Sides_P (out : (List Int) × Int) (d : D) (H : List HL) : Prop := ∃ β1 : BK, d = .tp 2 (nth [.own β1 1 0 out.1.length, .v (.int .i64 out.2)]) ∧ H = [.one β1 3 1 (row out.1)]
theorem walk_Sides_I (out : (List Int) × Int) : IndepP (walk_Sides_P out) := IndepP.of (by rintro _ _ ⟨β1, rfl, rfl⟩; exact ⟨inferInstance, inferInstance⟩)
set_option maxRecDepth 100000 in
set_option maxHeartbeats 4000000 in
theorem walk_Sides_spec (g : Graph) {out : (List Int) × Int} (H : walk_Sides_F g = some out) : Does Try.prog 53 [.ag 2 (nth [.v (.int .i64 g.n), slD g.as])] [] (walk_Sides_P out) := by
 unfold walk_Sides_F at H
 refine Does.intro Try.func53 rfl Try.ntmps53 rfl fun w0 I0 => ?_
 refine GoC.seq ?_
 refine GoC.region ?_
 refine GoO.effB (ef_boxAg rfl rfl) (fun β1 => ?_)
 refine GoO.pure (ps_assign rfl rfl) ?_
 refine GoO.pure (ps_assign rfl rfl) ?_
 refine GoO.nil ?_
 refine GoK.code ?_
 refine GoC.seq ?_
 refine GoC.region ?_
 refine GoO.pure (ps_loadAg rfl At.p0 At.p0 Nat.zero_lt_one rfl rfl) ?_
 have hb := bind_l H; clear H
 obtain ⟨⟨r2, r4⟩, e5, H⟩ := hb
 refine GoO.effC (ef_call rfl (Take.nil _) (Take.nil _) (walk_Parts_spec g e5) (LendL.cons (Lend.agA ⟨⟨trivial, Lend.refl _ _⟩, Lend.refl _ _⟩) (LendL.nil)) rfl (walk_Parts_I (r2, r4))) (fun rr HH hp => ?_)
 obtain ⟨β3, rfl, rfl⟩ := hp
 refine GoO.pure (ps_move rfl rfl) ?_
 refine GoO.pure (ps_extract rfl rfl rfl) ?_
 refine GoO.pure (ps_extract rfl rfl rfl) ?_
 refine GoO.pure (ps_assign rfl rfl) ?_
 refine GoO.pure (ps_assign rfl rfl) ?_
 refine GoO.nil ?_
 refine GoK.code ?_
 refine GoC.seq ?_
 refine GoC.seq ?_
 refine GoC.region ?_
 refine GoO.pure (ps_move rfl rfl) ?_
 refine GoO.pure (ps_neq rfl rfl rfl) ?_
 refine GoO.nil ?_
 refine GoK.code ?_
 refine GoC.condD rfl (fun h6 => ?_) (fun h6 => ?_)
 replace H := ite_t h6 H
 refine GoC.seq ?_
 refine GoC.region ?_
 refine GoO.pure (ps_move rfl rfl) ?_
 refine GoO.pure (ps_assign rfl rfl) ?_
 refine GoO.pure (ps_assign rfl rfl) ?_
 refine GoO.nil ?_
 refine GoK.code ?_
 obtain rfl := Option.some.inj H
 refine GoC.le (le_row0 3 1 (row ([] : List Int)) rfl) ?_
 exact GoC.retL (ds := [.own ⟨0, 0, 0⟩ 1 0 0, .v (.int .i64 r4)]) Try.results53 (ResL.cons (ResD.le (ResD.tmp rfl) (by exact DLe.nilOwn)) (ResL.cons (ResD.tmp rfl) (ResL.nil))) (Take.cons _ _ _ _ _ Rem.p0 (Take.nil _)) ⟨⟨0, 0, 0⟩, rfl, rfl⟩
 replace H := ite_f h6 H
 refine GoC.skip ?_
 refine GoK.code ?_
 refine GoC.seq ?_
 refine GoC.region ?_
 refine GoO.pure (ps_fieldAddr rfl rfl) ?_
 refine GoO.pure (ps_load rfl At.p1 At.p1 Nat.zero_lt_one rfl rfl) ?_
 have c8 := ck_l H; replace H := ck_r H
 refine GoO.effB (ef_makeZ rfl rfl c8 rfl rfl rfl) (fun β7 => ?_)
 refine GoO.le (Le.reH At.p0 (HLe.zeros (α := Int) ⟨trivial, DLe.refl _⟩)) ?_
 refine GoO.pure (ps_assign rfl rfl) ?_
 refine GoO.nil ?_
 refine GoK.code ?_
 refine GoC.seq ?_
 refine GoC.seq ?_
 refine GoC.region ?_
 refine GoO.pure (ps_move rfl rfl) ?_
 refine GoO.pure (ps_len rfl (by constructor) rfl) ?_
 refine GoO.lenLe (n := r2.length) (x := .tmp 24) rfl (by constructor) own_lenLe (fun ml9 => ?_)
 refine GoO.pure (ps_move rfl rfl) ?_
 refine GoO.nil ?_
 refine GoK.code ?_
 have hb := bind_l H; clear H
 obtain ⟨l14, hl19, HK11⟩ := hb
 refine GoC.blockJ [(1, .ptr β1 2 0 0)] [.one β3 3 1 (row r2), .one β1 33 2 (st1 (nth [.v (.int .i64 g.n), slD g.as]))] (fun v h => v = [(6, .own β7 1 0 l14.length)] ∧ h = [.one β7 3 1 (row l14)]) ?_ ?_
 refine GoC.loopJ [(1, _), (24, _), (25, _)] [.one β3 3 1 (row r2), .one β1 33 2 (st1 (nth [.v (.int .i64 g.n), slD g.as]))] (fun mQ v h => ∃ (k15 : Nat) (l10 : (List Int)), (k15 + mQ = r2.length ∧ forN (walk_Sides_B1 r2) mQ k15 l10 = some l14) ∧ v = [(26, .v (.int .i64 ((k15 : Nat) : Int))), (6, .own β7 1 0 l10.length)] ∧ h = [.one β7 3 1 (row l10)]) r2.length ⟨_, _, ⟨by omega, hl19⟩, rfl, rfl⟩ (EnvD.eq rfl (EnvD.cons rfl (DLe.len (by first | rfl | omega | (simp only [row_len, gridC_len, rowO_len, List.length_replicate] <;> first | rfl | omega))) (EnvD.eq rfl (EnvD.eq rfl (EnvD.eq rfl (EnvD.nil)))))) (TkD.cons _ _ _ _ _ Rem.p0 (HLe.refl _) (TkD.cons _ _ _ _ _ Rem.p0 (HLe.refl _) (TkD.cons _ _ _ _ _ Rem.p0 (HLe.st ⟨⟨trivial, DLe.refl _⟩, DLe.refl _⟩) (TkD.nil _)))) ?_
 rintro m16 v h ⟨k15, l10, ⟨hkk15, hF12⟩, rfl, rfl⟩
 refine GoC.seq ?_
 refine GoC.region ?_
 refine GoO.pure (ps_lss rfl rfl rfl) ?_
 refine GoO.nil ?_
 refine GoK.code ?_
 refine GoC.seq ?_
 refine GoC.condD rfl (fun (hk15 : (k15 : Int) < ((r2.length : Nat) : Int)) => ?_) (fun (hk15 : ¬ (k15 : Int) < ((r2.length : Nat) : Int)) => ?_)
 obtain ⟨m16', rfl⟩ : ∃ x, m16 = x + 1 := ⟨m16 - 1, by omega⟩
 have hb := bind_l hF12; clear hF12
 obtain ⟨qrm16, H, hF12⟩ := hb
 have hnk15 : k15 < r2.length := by omega
 have hIk15 : InI ((k15 : Int) + 1) := inI_len hk15 ml9
 refine GoC.skip ?_
 refine GoK.code ?_
 refine GoC.seq ?_
 refine GoC.block ?_
 refine GoC.seq ?_
 refine GoC.region ?_
 refine GoO.pure (ps_move rfl rfl) ?_
 refine GoO.pure (ps_indexAddr0N rfl rfl hnk15 rfl) ?_
 refine GoO.pure (ps_load rfl At.p1 At.p1 hnk15 rfl rfl) ?_
 refine GoO.pure (ps_assign rfl rfl) ?_
 refine GoO.pure (ps_assign rfl rfl) ?_
 refine GoO.nil ?_
 refine GoK.code ?_
 refine GoC.seq ?_
 refine GoC.region ?_
 refine GoO.pure (ps_move rfl rfl) ?_
 refine GoO.pure (ps_move rfl rfl) ?_
 have c17 := ck_l H; replace H := ck_r H
 refine GoO.pure (ps_indexAddr0N rfl rfl c17 rfl) ?_
 refine GoO.eff1 (ef_store rfl rfl rfl At.p0 (upd_row1 (v := (-1)) rfl) c17 rfl) ?_
 refine GoO.nil ?_
 refine GoK.code ?_
 refine GoC.seq ?_
 refine GoC.region ?_
 refine GoO.pure (ps_move rfl rfl) ?_
 refine GoO.pure (ps_move rfl rfl) ?_
 refine GoO.pure (ps_eql rfl rfl rfl) ?_
 refine GoO.nil ?_
 refine GoK.code ?_
 refine GoC.condD rfl (fun h18 => ?_) (fun h18 => ?_)
 replace H := ite_t h18 H
 refine GoC.region ?_
 refine GoO.pure (ps_move rfl rfl) ?_
 refine GoO.pure (ps_move rfl rfl) ?_
 refine GoO.pure (ps_indexAddr0N rfl rfl c17 rfl) ?_
 refine GoO.eff1 (ef_store rfl rfl rfl At.p0 (upd_row1 (v := 0) rfl) (lt_len c17 (by first | rfl | omega | (simp only [row_len, gridC_len, rowO_len, List.length_set] <;> first | rfl | omega))) rfl) ?_
 refine GoO.nil ?_
 refine GoK.blk ?_
 refine GoK.code ?_
 refine GoC.region ?_
 refine GoO.pure (ps_add rfl rfl rfl hIk15) ?_
 refine GoO.pure (ps_move rfl rfl) ?_
 refine GoO.nil ?_
 obtain rfl := Option.some.inj H
 exact GoK.againJ m16' (by omega) ⟨_, _, ⟨by omega, hF12⟩, rfl, rfl⟩ (EnvD.eq rfl (EnvD.cons rfl (DLe.len (by first | rfl | omega | (simp only [row_len, gridC_len, rowO_len, List.length_set] <;> first | rfl | omega))) (EnvD.eq rfl (EnvD.eq rfl (EnvD.eq rfl (EnvD.nil)))))) (TkD.cons _ _ _ _ _ Rem.p0 (HLe.refl _) (TkD.cons _ _ _ _ _ Rem.p0 (HLe.refl _) (TkD.cons _ _ _ _ _ Rem.p0 (HLe.st ⟨⟨trivial, DLe.refl _⟩, DLe.refl _⟩) (TkD.nil _))))
 replace H := ite_f h18 H
 refine GoC.skip ?_
 refine GoK.blk ?_
 refine GoK.code ?_
 refine GoC.region ?_
 refine GoO.pure (ps_add rfl rfl rfl hIk15) ?_
 refine GoO.pure (ps_move rfl rfl) ?_
 refine GoO.nil ?_
 obtain rfl := Option.some.inj H
 exact GoK.againJ m16' (by omega) ⟨_, _, ⟨by omega, hF12⟩, rfl, rfl⟩ (EnvD.eq rfl (EnvD.cons rfl (DLe.len (by first | rfl | omega | (simp only [row_len, gridC_len, rowO_len, List.length_set] <;> first | rfl | omega))) (EnvD.eq rfl (EnvD.eq rfl (EnvD.eq rfl (EnvD.nil)))))) (TkD.cons _ _ _ _ _ Rem.p0 (HLe.refl _) (TkD.cons _ _ _ _ _ Rem.p0 (HLe.refl _) (TkD.cons _ _ _ _ _ Rem.p0 (HLe.st ⟨⟨trivial, DLe.refl _⟩, DLe.refl _⟩) (TkD.nil _))))
 obtain rfl : m16 = 0 := by omega
 refine GoC.exit rfl ?_
 cases hF12
 exact GoK.meet ⟨rfl, rfl⟩ (EnvD.cons rfl (DLe.len (by first | rfl | omega | (simp only [row_len, gridC_len, rowO_len] <;> first | rfl | omega))) (EnvD.eq rfl (EnvD.nil))) (TkD.cons _ _ _ _ _ Rem.p0 (HLe.refl _) (TkD.cons _ _ _ _ _ Rem.p0 (HLe.refl _) (TkD.cons _ _ _ _ _ Rem.p0 (HLe.st ⟨⟨trivial, DLe.refl _⟩, DLe.refl _⟩) (TkD.nil _))))
 rintro v h ⟨rfl, rfl⟩
 have H := HK11; clear HK11
 refine GoK.code ?_
 refine GoC.seq ?_
 refine GoC.seq ?_
 refine GoC.region ?_
 refine GoO.pure (ps_fieldAddr rfl rfl) ?_
 refine GoO.pure (ps_load rfl At.p2 At.p2 Nat.zero_lt_one rfl rfl) ?_
 refine GoO.pure (ps_move rfl rfl) ?_
 refine GoO.nil ?_
 refine GoK.code ?_
 have c20 := ck_l H; replace H := ck_r H
 have hb := bind_l H; clear H
 obtain ⟨l25, hl46, HK22⟩ := hb
 refine GoC.blockJ [(1, .ptr β1 2 0 0)] [.one β3 3 1 (row r2), .one β1 33 2 (st1 (nth [.v (.int .i64 g.n), slD g.as]))] (fun v h => v = [(6, .own β7 1 0 l25.length)] ∧ h = [.one β7 3 1 (row l25)]) ?_ ?_
 refine GoC.loopJ [(1, _), (42, _)] [.one β3 3 1 (row r2), .one β1 33 2 (st1 (nth [.v (.int .i64 g.n), slD g.as]))] (fun mQ v h => ∃ (k26 : Nat) (l21 : (List Int)), (k26 + mQ = g.n.toNat ∧ forN (walk_Sides_B2 g) mQ k26 l21 = some l25) ∧ v = [(43, .v (.int .i64 ((k26 : Nat) : Int))), (6, .own β7 1 0 l21.length)] ∧ h = [.one β7 3 1 (row l21)]) g.n.toNat ⟨_, _, ⟨by omega, hl46⟩, rfl, rfl⟩ (EnvD.eq rfl (EnvD.cons rfl (DLe.len (by first | rfl | omega | (simp only [row_len, gridC_len, rowO_len] <;> first | rfl | omega))) (EnvD.eq rfl (EnvD.eq rfl (EnvD.nil))))) (TkD.cons _ _ _ _ _ Rem.p0 (HLe.refl _) (TkD.cons _ _ _ _ _ Rem.p0 (HLe.refl _) (TkD.cons _ _ _ _ _ Rem.p0 (HLe.st ⟨⟨trivial, DLe.refl _⟩, DLe.refl _⟩) (TkD.nil _)))) ?_
 rintro m27 v h ⟨k26, l21, ⟨hkk26, hF23⟩, rfl, rfl⟩
 refine GoC.seq ?_
 refine GoC.region ?_
 refine GoO.pure (ps_lss rfl rfl rfl) ?_
 refine GoO.nil ?_
 refine GoK.code ?_
 refine GoC.seq ?_
 refine GoC.condD rfl (fun (hk26 : (k26 : Int) < g.n) => ?_) (fun (hk26 : ¬ (k26 : Int) < g.n) => ?_)
 obtain ⟨m27', rfl⟩ : ∃ x, m27 = x + 1 := ⟨m27 - 1, by omega⟩
 have hb := bind_l hF23; clear hF23
 obtain ⟨qrm27, H, hF23⟩ := hb
 have hnk26 : k26 < g.n.toNat := by omega
 have hIk26 : InI ((k26 : Int) + 1) := inI_cnt hk26 c20
 refine GoC.skip ?_
 refine GoK.code ?_
 refine GoC.seq ?_
 refine GoC.block ?_
 refine GoC.seq ?_
 refine GoC.region ?_
 refine GoO.pure (ps_loadAg rfl At.p2 At.p2 Nat.zero_lt_one rfl rfl) ?_
 have hb := bind_l H; clear H
 obtain ⟨r28, e30, H⟩ := hb
 refine GoO.effC (ef_call rfl (Take.nil _) (Take.nil _) (walk_both_spec g e30) (LendL.cons (Lend.agA ⟨⟨trivial, Lend.refl _ _⟩, Lend.refl _ _⟩) (LendL.nil)) rfl (walk_both_I (r28))) (fun rr HH hp => ?_)
 obtain ⟨β29, rfl, rfl⟩ := hp
 refine GoO.pure (ps_field rfl rfl rfl) ?_
 refine GoO.pure (ps_len rfl (by constructor) rfl) ?_
 refine GoO.lenLe (n := r28.as.length) (x := .tmp 47) rfl (by constructor) own_lenLe (fun ml31 => ?_)
 refine GoO.pure (ps_move rfl rfl) ?_
 refine GoO.nil ?_
 refine GoK.code ?_
 have hb := bind_l H; clear H
 obtain ⟨l36, hl45, HK33⟩ := hb
 refine GoC.blockJ [(1, .ptr β1 2 0 0), (42, .v (.int .i64 g.n)), (43, .v (.int .i64 ((k26 : Nat) : Int)))] [.one β29 39 3 (row r28.as), .one β3 3 1 (row r2), .one β1 33 2 (st1 (nth [.v (.int .i64 g.n), slD g.as]))] (fun v h => v = [(6, .own β7 1 0 l36.length)] ∧ h = [.one β7 3 1 (row l36)]) ?_ ?_
 refine GoC.loopJ [(1, _), (42, _), (43, _), (47, _), (48, _)] [.one β29 39 3 (row r28.as), .one β3 3 1 (row r2), .one β1 33 2 (st1 (nth [.v (.int .i64 g.n), slD g.as]))] (fun mQ v h => ∃ (k37 : Nat) (l32 : (List Int)), (k37 + mQ = r28.as.length ∧ forN (walk_Sides_B3 r28) mQ k37 l32 = some l36) ∧ v = [(49, .v (.int .i64 ((k37 : Nat) : Int))), (6, .own β7 1 0 l32.length)] ∧ h = [.one β7 3 1 (row l32)]) r28.as.length ⟨_, _, ⟨by omega, hl45⟩, rfl, rfl⟩ (EnvD.eq rfl (EnvD.cons rfl (DLe.len (by first | rfl | omega | (simp only [row_len, gridC_len, rowO_len] <;> first | rfl | omega))) (EnvD.eq rfl (EnvD.eq rfl (EnvD.eq rfl (EnvD.eq rfl (EnvD.eq rfl (EnvD.nil)))))))) (TkD.cons _ _ _ _ _ Rem.p1 (HLe.refl _) (TkD.cons _ _ _ _ _ Rem.p0 (HLe.refl _) (TkD.cons _ _ _ _ _ Rem.p0 (HLe.refl _) (TkD.cons _ _ _ _ _ Rem.p0 (HLe.st ⟨⟨trivial, DLe.refl _⟩, DLe.refl _⟩) (TkD.nil _))))) ?_
 rintro m38 v h ⟨k37, l32, ⟨hkk37, hF34⟩, rfl, rfl⟩
 refine GoC.seq ?_
 refine GoC.region ?_
 refine GoO.pure (ps_lss rfl rfl rfl) ?_
 refine GoO.nil ?_
 refine GoK.code ?_
 refine GoC.seq ?_
 refine GoC.condD rfl (fun (hk37 : (k37 : Int) < ((r28.as.length : Nat) : Int)) => ?_) (fun (hk37 : ¬ (k37 : Int) < ((r28.as.length : Nat) : Int)) => ?_)
 obtain ⟨m38', rfl⟩ : ∃ x, m38 = x + 1 := ⟨m38 - 1, by omega⟩
 have hb := bind_l hF34; clear hF34
 obtain ⟨qrm38, H, hF34⟩ := hb
 have hnk37 : k37 < r28.as.length := by omega
 have hIk37 : InI ((k37 : Int) + 1) := inI_len hk37 ml31
 refine GoC.skip ?_
 refine GoK.code ?_
 refine GoC.seq ?_
 refine GoC.block ?_
 refine GoC.seq ?_
 refine GoC.region ?_
 refine GoO.pure (ps_indexAddr0N rfl rfl hnk37 rfl) ?_
 refine GoO.pure (ps_loadAg rfl At.p1 At.p1 hnk37 rfl rfl) ?_
 refine GoO.effB (ef_alloc rfl) (fun β39 => ?_)
 refine GoO.eff1 (ef_storeAg rfl rfl At.p0 upd_whole Nat.zero_lt_one rfl) ?_
 refine GoO.nil ?_
 refine GoK.code ?_
 refine GoC.seq ?_
 refine GoC.region ?_
 refine GoO.pure (ps_move rfl rfl) ?_
 refine GoO.pure (ps_fieldAddr rfl rfl) ?_
 refine GoO.pure (ps_load rfl At.p0 At.p0 Nat.zero_lt_one rfl rfl) ?_
 have c40 := ck_l H; replace H := ck_r H
 refine GoO.pure (ps_indexAddr0 rfl rfl c40 rfl) ?_
 refine GoO.pure (ps_load rfl At.p1 At.p1 (idx_lt c40) rfl rfl) ?_
 refine GoO.pure (ps_geq rfl rfl rfl) ?_
 refine GoO.pure (ps_move rfl rfl) ?_
 refine GoO.guardD rfl rfl rfl rfl (fun h41 => ?_) (fun h41 => ?_)
 replace H := ite_t h41 H
 refine GoO.pure (ps_move rfl rfl) ?_
 refine GoO.guardT rfl rfl rfl ?_
 refine GoO.pure (ps_fieldAddr rfl rfl) ?_
 refine GoO.guardT rfl rfl rfl ?_
 refine GoO.pure (ps_load rfl At.p0 At.p0 Nat.zero_lt_one rfl rfl) ?_
 refine GoO.guardT rfl rfl rfl ?_
 have c42 := ck_l H; replace H := ck_r H
 refine GoO.pure (ps_indexAddr0 rfl rfl c42 rfl) ?_
 refine GoO.guardT rfl rfl rfl ?_
 refine GoO.pure (ps_load rfl At.p1 At.p1 (idx_lt c42) rfl rfl) ?_
 refine GoO.guardT rfl rfl rfl ?_
 refine GoO.pure (ps_lss rfl rfl rfl) ?_
 refine GoO.pure (ps_pickT rfl rfl rfl) ?_
 refine GoO.nil ?_
 refine GoK.code ?_
 refine GoC.condD rfl (fun h43 => ?_) (fun h43 => ?_)
 replace H := ite_t h43 H
 refine GoC.drawP (.q 0 (.q 1 (.q 2 (.q 3 (.q 4 (.q 5 (.q 6 (.one 7 (.q 8 (.q 9 (.one 10 (.done)))))))))))) [(10, _, _, _)] follows (by kernel_rfl) (Take.cons _ _ _ _ _ Rem.p0 (Take.nil _)) ?_
 refine GoP.qN rfl (ps_move rfl rfl) ?_
 refine GoP.qN rfl (ps_fieldAddr rfl rfl) ?_
 refine GoP.qN rfl (ps_load rfl At.p0 At.p0 Nat.zero_lt_one rfl rfl) ?_
 refine GoP.qN rfl (ps_move rfl rfl) ?_
 refine GoP.qN rfl (ps_fieldAddr rfl rfl) ?_
 refine GoP.qN rfl (ps_load rfl At.p0 At.p0 Nat.zero_lt_one rfl rfl) ?_
 refine GoP.qN rfl (ps_indexAddr0 rfl rfl c40 rfl) ?_
 refine GoP.oneN rfl (ps_load rfl At.p1 At.p1 (idx_lt c40) rfl rfl) (Take.cons _ _ _ _ _ Rem.p0 (Take.nil _)) ?_
 have c44 := ck_l H; replace H := ck_r H
 refine GoP.qN rfl (ps_sub rfl rfl rfl c44) ?_
 refine GoP.qN rfl (ps_indexAddr0 rfl rfl c42 rfl) ?_
 refine GoP.one1 rfl trivial (ef_store rfl rfl rfl At.p1 (upd_row1 (v := (1 - (l32.getD (((r28.as.getD k37 El.d).f).toNat) (0 : Int)))) rfl) (idx_lt c42) rfl) (Take.cons _ _ _ _ _ Rem.p1 (Take.cons _ _ _ _ _ Rem.p0 (Take.nil _))) ?_
 refine GoP.done ?_
 refine GoK.blk ?_
 refine GoK.code ?_
 refine GoC.region ?_
 refine GoO.pure (ps_add rfl rfl rfl hIk37) ?_
 refine GoO.pure (ps_move rfl rfl) ?_
 refine GoO.nil ?_
 obtain rfl := Option.some.inj H
 exact GoK.againJ m38' (by omega) ⟨_, _, ⟨by omega, hF34⟩, rfl, rfl⟩ (EnvD.eq rfl (EnvD.cons rfl (DLe.len (by first | rfl | omega | (simp only [row_len, gridC_len, rowO_len, List.length_set] <;> first | rfl | omega))) (EnvD.eq rfl (EnvD.eq rfl (EnvD.eq rfl (EnvD.eq rfl (EnvD.eq rfl (EnvD.nil)))))))) (TkD.cons _ _ _ _ _ Rem.p1 (HLe.refl _) (TkD.cons _ _ _ _ _ Rem.p1 (HLe.refl _) (TkD.cons _ _ _ _ _ Rem.p1 (HLe.refl _) (TkD.cons _ _ _ _ _ Rem.p1 (HLe.st ⟨⟨trivial, DLe.refl _⟩, DLe.refl _⟩) (TkD.nil _)))))
 replace H := ite_f h43 H
 refine GoC.skip ?_
 refine GoK.blk ?_
 refine GoK.code ?_
 refine GoC.region ?_
 refine GoO.pure (ps_add rfl rfl rfl hIk37) ?_
 refine GoO.pure (ps_move rfl rfl) ?_
 refine GoO.nil ?_
 obtain rfl := Option.some.inj H
 exact GoK.againJ m38' (by omega) ⟨_, _, ⟨by omega, hF34⟩, rfl, rfl⟩ (EnvD.eq rfl (EnvD.eq rfl (EnvD.eq rfl (EnvD.eq rfl (EnvD.eq rfl (EnvD.eq rfl (EnvD.eq rfl (EnvD.nil)))))))) (TkD.cons _ _ _ _ _ Rem.p1 (HLe.refl _) (TkD.cons _ _ _ _ _ Rem.p1 (HLe.refl _) (TkD.cons _ _ _ _ _ Rem.p1 (HLe.refl _) (TkD.cons _ _ _ _ _ Rem.p1 (HLe.st ⟨⟨trivial, DLe.refl _⟩, DLe.refl _⟩) (TkD.nil _)))))
 replace H := ite_f h41 H
 refine GoO.guardF rfl rfl rfl rfl ?_
 refine GoO.guardF rfl rfl rfl rfl ?_
 refine GoO.guardF rfl rfl rfl rfl ?_
 refine GoO.guardF rfl rfl rfl rfl ?_
 refine GoO.guardF rfl rfl rfl rfl ?_
 refine GoO.pure (ps_pickF rfl rfl rfl) ?_
 refine GoO.nil ?_
 refine GoK.code ?_
 refine GoC.condF rfl ?_
 refine GoC.skip ?_
 refine GoK.blk ?_
 refine GoK.code ?_
 refine GoC.region ?_
 refine GoO.pure (ps_add rfl rfl rfl hIk37) ?_
 refine GoO.pure (ps_move rfl rfl) ?_
 refine GoO.nil ?_
 obtain rfl := Option.some.inj H
 exact GoK.againJ m38' (by omega) ⟨_, _, ⟨by omega, hF34⟩, rfl, rfl⟩ (EnvD.eq rfl (EnvD.eq rfl (EnvD.eq rfl (EnvD.eq rfl (EnvD.eq rfl (EnvD.eq rfl (EnvD.eq rfl (EnvD.nil)))))))) (TkD.cons _ _ _ _ _ Rem.p1 (HLe.refl _) (TkD.cons _ _ _ _ _ Rem.p1 (HLe.refl _) (TkD.cons _ _ _ _ _ Rem.p1 (HLe.refl _) (TkD.cons _ _ _ _ _ Rem.p1 (HLe.st ⟨⟨trivial, DLe.refl _⟩, DLe.refl _⟩) (TkD.nil _)))))
 obtain rfl : m38 = 0 := by omega
 refine GoC.exit rfl ?_
 cases hF34
 exact GoK.meet ⟨rfl, rfl⟩ (EnvD.cons rfl (DLe.len (by first | rfl | omega | (simp only [row_len, gridC_len, rowO_len] <;> first | rfl | omega))) (EnvD.eq rfl (EnvD.eq rfl (EnvD.eq rfl (EnvD.nil))))) (TkD.cons _ _ _ _ _ Rem.p0 (HLe.refl _) (TkD.cons _ _ _ _ _ Rem.p0 (HLe.refl _) (TkD.cons _ _ _ _ _ Rem.p0 (HLe.refl _) (TkD.cons _ _ _ _ _ Rem.p0 (HLe.st ⟨⟨trivial, DLe.refl _⟩, DLe.refl _⟩) (TkD.nil _)))))
 rintro v h ⟨rfl, rfl⟩
 have H := HK33; clear HK33
 refine GoK.blk ?_
 refine GoK.code ?_
 refine GoC.region ?_
 refine GoO.pure (ps_add rfl rfl rfl hIk26) ?_
 refine GoO.pure (ps_move rfl rfl) ?_
 refine GoO.nil ?_
 obtain rfl := Option.some.inj H
 exact GoK.againJ m27' (by omega) ⟨_, _, ⟨by omega, hF23⟩, rfl, rfl⟩ (EnvD.eq rfl (EnvD.cons rfl (DLe.len (by first | rfl | omega | (simp only [row_len, gridC_len, rowO_len] <;> first | rfl | omega))) (EnvD.eq rfl (EnvD.eq rfl (EnvD.nil))))) (TkD.cons _ _ _ _ _ Rem.p0 (HLe.refl _) (TkD.cons _ _ _ _ _ Rem.p1 (HLe.refl _) (TkD.cons _ _ _ _ _ Rem.p1 (HLe.st ⟨⟨trivial, DLe.refl _⟩, DLe.refl _⟩) (TkD.nil _))))
 obtain rfl : m27 = 0 := by omega
 refine GoC.exit rfl ?_
 cases hF23
 exact GoK.meet ⟨rfl, rfl⟩ (EnvD.cons rfl (DLe.len (by first | rfl | omega | (simp only [row_len, gridC_len, rowO_len] <;> first | rfl | omega))) (EnvD.eq rfl (EnvD.nil))) (TkD.cons _ _ _ _ _ Rem.p0 (HLe.refl _) (TkD.cons _ _ _ _ _ Rem.p0 (HLe.refl _) (TkD.cons _ _ _ _ _ Rem.p0 (HLe.st ⟨⟨trivial, DLe.refl _⟩, DLe.refl _⟩) (TkD.nil _))))
 rintro v h ⟨rfl, rfl⟩
 have H := HK22; clear HK22
 refine GoK.code ?_
 refine GoC.seq ?_
 refine GoC.seq ?_
 refine GoC.region ?_
 refine GoO.pure (ps_fieldAddr rfl rfl) ?_
 refine GoO.pure (ps_load rfl At.p2 At.p2 Nat.zero_lt_one rfl rfl) ?_
 refine GoO.pure (ps_len rfl (by constructor) rfl) ?_
 refine GoO.lenLe (n := g.as.length) (x := .tmp 80) rfl (by constructor) sl_lenLe (fun ml47 => ?_)
 refine GoO.pure (ps_move rfl rfl) ?_
 refine GoO.nil ?_
 refine GoK.code ?_
 have hb := bind_l H; clear H
 obtain ⟨q50, hl57, HK48⟩ := hb
 refine GoC.blockJ [(6, .own β7 1 0 l25.length)] [.one β7 3 1 (row l25), .one β3 3 1 (row r2), .one β1 33 2 (st1 (nth [.v (.int .i64 g.n), slD g.as]))] (fun v h => q50 = .go () ∧ v = [] ∧ h = []) ?_ ?_
 refine GoC.loopJ [(6, _), (80, _), (81, _)] [.one β7 3 1 (row l25), .one β3 3 1 (row r2), .one β1 33 2 (st1 (nth [.v (.int .i64 g.n), slD g.as]))] (fun mQ v h => ∃ (k51 : Nat), (k51 + mQ = g.as.length ∧ forC (walk_Sides_B4 g l25) mQ k51 () = some q50) ∧ v = [(82, .v (.int .i64 ((k51 : Nat) : Int)))] ∧ h = []) g.as.length ⟨_, ⟨by omega, hl57⟩, rfl, rfl⟩ (EnvD.eq rfl (EnvD.eq rfl (EnvD.eq rfl (EnvD.eq rfl (EnvD.nil))))) (TkD.cons _ _ _ _ _ Rem.p0 (HLe.refl _) (TkD.cons _ _ _ _ _ Rem.p0 (HLe.refl _) (TkD.cons _ _ _ _ _ Rem.p0 (HLe.st ⟨⟨trivial, DLe.refl _⟩, DLe.refl _⟩) (TkD.nil _)))) ?_
 rintro m52 v h ⟨k51, ⟨hkk51, hF49⟩, rfl, rfl⟩
 refine GoC.seq ?_
 refine GoC.region ?_
 refine GoO.pure (ps_lss rfl rfl rfl) ?_
 refine GoO.nil ?_
 refine GoK.code ?_
 refine GoC.seq ?_
 refine GoC.condD rfl (fun (hk51 : (k51 : Int) < ((g.as.length : Nat) : Int)) => ?_) (fun (hk51 : ¬ (k51 : Int) < ((g.as.length : Nat) : Int)) => ?_)
 obtain ⟨m52', rfl⟩ : ∃ x, m52 = x + 1 := ⟨m52 - 1, by omega⟩
 have hb := bind_l hF49; clear hF49
 obtain ⟨qrm52, H, hF49⟩ := hb
 have hnk51 : k51 < g.as.length := by omega
 have hIk51 : InI ((k51 : Int) + 1) := inI_len hk51 ml47
 refine GoC.skip ?_
 refine GoK.code ?_
 refine GoC.seq ?_
 refine GoC.block ?_
 refine GoC.seq ?_
 refine GoC.region ?_
 refine GoO.pure (ps_indexAddrRN rfl rfl hnk51 rfl) ?_
 refine GoO.pure (ps_loadAgR rfl hnk51 rfl rfl) ?_
 refine GoO.effB (ef_alloc rfl) (fun β53 => ?_)
 refine GoO.eff1 (ef_storeAg rfl rfl At.p0 upd_whole Nat.zero_lt_one rfl) ?_
 refine GoO.nil ?_
 refine GoK.code ?_
 refine GoC.seq ?_
 refine GoC.drawA (.q 0 (.q 1 (.q 2 (.q 3 (.q 4 (.q 5 (.q 6 (.q 7 (.q 8 (.q 9 (.q 10 (.done)))))))))))) follows (by kernel_rfl) ?_
 refine GoP.qN rfl (ps_move rfl rfl) ?_
 refine GoP.qN rfl (ps_fieldAddr rfl rfl) ?_
 refine GoP.qN rfl (ps_load rfl At.p0 At.p0 Nat.zero_lt_one rfl rfl) ?_
 have c54 := ck_l H; replace H := ck_r H
 refine GoP.qN rfl (ps_indexAddr0 rfl rfl c54 rfl) ?_
 refine GoP.qN rfl (ps_load rfl At.p1 At.p1 (idx_lt c54) rfl rfl) ?_
 refine GoP.qN rfl (ps_move rfl rfl) ?_
 refine GoP.qN rfl (ps_fieldAddr rfl rfl) ?_
 refine GoP.qN rfl (ps_load rfl At.p0 At.p0 Nat.zero_lt_one rfl rfl) ?_
 have c55 := ck_l H; replace H := ck_r H
 refine GoP.qN rfl (ps_indexAddr0 rfl rfl c55 rfl) ?_
 refine GoP.qN rfl (ps_load rfl At.p1 At.p1 (idx_lt c55) rfl rfl) ?_
 refine GoP.qN rfl (ps_eql rfl rfl rfl) ?_
 refine GoP.done ?_
 refine GoK.code ?_
 refine GoC.condD rfl (fun h56 => ?_) (fun h56 => ?_)
 replace H := ite_t h56 H
 refine GoC.seq ?_
 refine GoC.region ?_
 refine GoO.pure (ps_assign rfl rfl) ?_
 refine GoO.pure (ps_assign rfl rfl) ?_
 refine GoO.nil ?_
 refine GoK.code ?_
 obtain rfl := Option.some.inj H
 obtain rfl := Option.some.inj hF49
 obtain rfl := Option.some.inj HK48
 refine GoC.le (le_row0 3 1 (row ([] : List Int)) rfl) ?_
 exact GoC.retL (ds := [.own ⟨0, 0, 0⟩ 1 0 0, .v (.int .i64 6)]) Try.results53 (ResL.cons (ResD.le (ResD.tmp rfl) (by exact DLe.nilOwn)) (ResL.cons (ResD.tmp rfl) (ResL.nil))) (Take.cons _ _ _ _ _ Rem.p0 (Take.nil _)) ⟨⟨0, 0, 0⟩, rfl, rfl⟩
 replace H := ite_f h56 H
 refine GoC.skip ?_
 refine GoK.blk ?_
 refine GoK.code ?_
 refine GoC.region ?_
 refine GoO.pure (ps_add rfl rfl rfl hIk51) ?_
 refine GoO.pure (ps_move rfl rfl) ?_
 refine GoO.nil ?_
 obtain rfl := Option.some.inj H
 exact GoK.againJ m52' (by omega) ⟨_, ⟨by omega, hF49⟩, rfl, rfl⟩ (EnvD.eq rfl (EnvD.eq rfl (EnvD.eq rfl (EnvD.eq rfl (EnvD.nil))))) (TkD.cons _ _ _ _ _ Rem.p1 (HLe.refl _) (TkD.cons _ _ _ _ _ Rem.p1 (HLe.refl _) (TkD.cons _ _ _ _ _ Rem.p1 (HLe.st ⟨⟨trivial, DLe.refl _⟩, DLe.refl _⟩) (TkD.nil _))))
 obtain rfl : m52 = 0 := by omega
 refine GoC.exit rfl ?_
 cases hF49
 exact GoK.meet ⟨rfl, rfl, rfl⟩ (EnvD.eq rfl (EnvD.nil)) (TkD.cons _ _ _ _ _ Rem.p0 (HLe.refl _) (TkD.cons _ _ _ _ _ Rem.p0 (HLe.refl _) (TkD.cons _ _ _ _ _ Rem.p0 (HLe.st ⟨⟨trivial, DLe.refl _⟩, DLe.refl _⟩) (TkD.nil _))))
 rintro v h ⟨rfl, rfl, rfl⟩
 have H := HK48; clear HK48
 refine GoK.code ?_
 refine GoC.seq ?_
 refine GoC.region ?_
 refine GoO.pure (ps_move rfl rfl) ?_
 refine GoO.pure (ps_assign rfl rfl) ?_
 refine GoO.pure (ps_assign rfl rfl) ?_
 refine GoO.nil ?_
 refine GoK.code ?_
 obtain rfl := Option.some.inj H
 exact GoC.retL (ds := [.own β7 1 0 l25.length, .v (.int .i64 0)]) Try.results53 (ResL.cons (ResD.tmp rfl) (ResL.cons (ResD.tmp rfl) (ResL.nil))) (Take.cons _ _ _ _ _ Rem.p0 (Take.nil _)) ⟨β7, rfl, rfl⟩

end Go.Proofs.Ytdpkdicciclobaa
