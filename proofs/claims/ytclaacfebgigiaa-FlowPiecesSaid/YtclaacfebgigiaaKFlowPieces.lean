/- The functions weirkeep.FlowPieces, told as plain functions, and that the code does as they say. -/
import Derived.Test.YtclaacfebgigiaaTys
import Derived.Test.YtclaacfebgigiaaDat
import Derived.Test.YtclaacfebgigiaaGflow
import Derived.Test.YtclaacfebgigiaaGkeep
import Derived.Test.YtclaacfebgigiaaGref
import Derived.Test.YtclaacfebgigiaaGslices
namespace Go.Proofs.Ytclaacfebgigiaa
open Go Go.Proofs.Ytclaacfebgigiaa.Sx
set_option linter.unusedVariables false
set_option linter.unusedSimpArgs false
def weirkeep_FlowPieces_c1_B2 (p0 : (List Piece)) (k12 : Nat) : Nat → (List Int) → Option (Ct ((List Int)) (Ct ((List Int) × Int) ((List Int) × Int × Bool))) := fun k21 l16 =>
 if (((p0.getD k12 El.d).arcs).getD k21 (0 : Int)) < 0 then
  some (.ret (.ret ([], 0, false)))
 else
  if ((l16.length : Nat) : Int) ≤ (((p0.getD k12 El.d).arcs).getD k21 (0 : Int)) then
   some (.ret (.ret ([], 0, false)))
  else
   ck (0 ≤ (((p0.getD k12 El.d).arcs).getD k21 (0 : Int)) ∧ (((p0.getD k12 El.d).arcs).getD k21 (0 : Int)) < ((l16.length : Nat) : Int)) <|
   ck (InI ((l16.getD ((((p0.getD k12 El.d).arcs).getD k21 (0 : Int)).toNat) (0 : Int)) + ((p0.getD k12 El.d).amount))) <|
   some (.go (l16.set ((((p0.getD k12 El.d).arcs).getD k21 (0 : Int)).toNat) ((l16.getD ((((p0.getD k12 El.d).arcs).getD k21 (0 : Int)).toNat) (0 : Int)) + ((p0.getD k12 El.d).amount))))
def weirkeep_FlowPieces_c1_B1 (p0 : (List Piece)) (c_1 : (List Piece)) : Nat → ((List Int) × Int) → Option (Ct ((List Int) × Int) ((List Int) × Int × Bool)) := fun k12 (l5, x6) =>
 (forC (weirkeep_FlowPieces_c1_B2 p0 k12) (((p0.getD k12 El.d).arcs).length) 0 l5).bind fun q => match q with
 | .go l20 =>
  if ((k12 : Nat) : Int) < ((c_1.length : Nat) : Int) then
   ck (InI (x6 + ((p0.getD k12 El.d).amount))) <|
   some (.go (l20, (x6 + ((p0.getD k12 El.d).amount))))
  else
   some (.go (l20, x6))
 | .ret x => some x
def weirkeep_FlowPieces_c1_F (p0 : (List Piece)) (c_0 : Net) (c_1 : (List Piece)) : Option ((List Int) × Int × Bool) :=
 ck (0 ≤ ((c_0.as.length : Nat) : Int) ∧ ((c_0.as.length : Nat) : Int) ≤ 10000000000) <|
 (forC (weirkeep_FlowPieces_c1_B1 p0 c_1) p0.length 0 ((List.replicate (((c_0.as.length : Nat) : Int).toNat) (0 : Int)), 0)).bind fun q => match q with
 | .go (l10, x11) =>
  some (l10, x11, true)
 | .ret x => some x
def weirkeep_FlowPieces_c1_P (out : (List Int) × Int × Bool) (d : D) (H : List HL) : Prop := ∃ β1 : BK, d = .tp 3 (nth [.own β1 1 0 out.1.length, .v (.int .i64 out.2.1), .v (.bool out.2.2)]) ∧ H = [.one β1 3 1 (row out.1)]
theorem weirkeep_FlowPieces_c1_I (out : (List Int) × Int × Bool) : IndepP (weirkeep_FlowPieces_c1_P out) := IndepP.of (by rintro _ _ ⟨β1, rfl, rfl⟩; exact ⟨inferInstance, inferInstance⟩)
set_option maxRecDepth 100000 in
set_option maxHeartbeats 4000000 in
theorem weirkeep_FlowPieces_c1_spec (p0 : (List Piece)) (c_0 : Net) (c_1 : (List Piece)) {out : (List Int) × Int × Bool} (H : weirkeep_FlowPieces_c1_F p0 c_0 c_1 = some out) : Does Try.prog 24 [slD p0, .rp 4 1 (row [c_0]).get 0 0, .rp 1 1 (row [c_1]).get 0 0] [] (weirkeep_FlowPieces_c1_P out) := by
 unfold weirkeep_FlowPieces_c1_F at H
 refine Does.intro Try.func24 rfl Try.ntmps24 rfl fun w0 I0 => ?_
 refine GoC.seq ?_
 refine GoC.region ?_
 refine GoO.pure (ps_assign rfl rfl) ?_
 refine GoO.pure (ps_assign rfl rfl) ?_
 refine GoO.pure (ps_assign rfl rfl) ?_
 refine GoO.nil ?_
 refine GoK.code ?_
 refine GoC.seq ?_
 refine GoC.region ?_
 refine GoO.pure (ps_fieldAddrR rfl rfl) ?_
 refine GoO.pure (ps_loadR rfl Nat.zero_lt_one rfl rfl) ?_
 refine GoO.pure (ps_len rfl (by constructor) rfl) ?_
 refine GoO.lenLe (n := c_0.as.length) (x := .tmp 14) rfl (by constructor) sl_lenLe (fun ml1 => ?_)
 have c3 := ck_l H; replace H := ck_r H
 refine GoO.effB (ef_makeZ rfl rfl c3 rfl rfl rfl) (fun β2 => ?_)
 refine GoO.le (Le.reH At.p0 (HLe.zeros (α := Int) ⟨trivial, DLe.refl _⟩)) ?_
 refine GoO.pure (ps_assign rfl rfl) ?_
 refine GoO.pure (ps_assign rfl rfl) ?_
 refine GoO.nil ?_
 refine GoK.code ?_
 refine GoC.seq ?_
 refine GoC.seq ?_
 refine GoC.region ?_
 refine GoO.pure (ps_move rfl rfl) ?_
 refine GoO.pure (ps_len rfl (by constructor) rfl) ?_
 refine GoO.lenLe (n := p0.length) (x := .tmp 17) rfl (by constructor) sl_lenLe (fun ml4 => ?_)
 refine GoO.pure (ps_move rfl rfl) ?_
 refine GoO.nil ?_
 refine GoK.code ?_
 have hb := bind_l H; clear H
 obtain ⟨q9, hl32, HK7⟩ := hb
 refine GoC.blockJ [] [] (fun v h => ∃ (l10 : (List Int)) (x11 : Int), q9 = .go (l10, x11) ∧ v = [(7, .own β2 1 0 l10.length), (8, .v (.int .i64 x11))] ∧ h = [.one β2 3 1 (row l10)]) ?_ ?_
 refine GoC.loopJ [(2, _), (17, _), (18, _)] [] (fun m v h => ∃ (k12 : Nat) (l5 : (List Int)) (x6 : Int), (k12 + m = p0.length ∧ forC (weirkeep_FlowPieces_c1_B1 p0 c_1) m k12 (l5, x6) = some q9) ∧ v = [(19, .v (.int .i64 ((k12 : Nat) : Int))), (7, .own β2 1 0 l5.length), (8, .v (.int .i64 x6))] ∧ h = [.one β2 3 1 (row l5)]) p0.length ⟨_, _, _, ⟨by omega, hl32⟩, rfl, rfl⟩ (EnvD.eq rfl (EnvD.cons rfl (DLe.len (by first | rfl | omega | (simp only [row_len, List.length_replicate] <;> first | rfl | omega))) (EnvD.eq rfl (EnvD.eq rfl (EnvD.eq rfl (EnvD.eq rfl (EnvD.nil))))))) (TkD.cons _ _ _ _ _ Rem.p0 (HLe.refl _) (TkD.nil _)) ?_
 rintro m13 v h ⟨k12, l5, x6, ⟨hkk12, hF8⟩, rfl, rfl⟩
 refine GoC.seq ?_
 refine GoC.region ?_
 refine GoO.pure (ps_lss rfl rfl rfl) ?_
 refine GoO.nil ?_
 refine GoK.code ?_
 refine GoC.seq ?_
 refine GoC.condD rfl (fun (hk12 : (k12 : Int) < ((p0.length : Nat) : Int)) => ?_) (fun (hk12 : ¬ (k12 : Int) < ((p0.length : Nat) : Int)) => ?_)
 obtain ⟨m13', rfl⟩ : ∃ x, m13 = x + 1 := ⟨m13 - 1, by omega⟩
 have hb := bind_l hF8; clear hF8
 obtain ⟨qrm13, H, hF8⟩ := hb
 have hnk12 : k12 < p0.length := by omega
 have hIk12 : InI ((k12 : Int) + 1) := inI_len hk12 ml4
 refine GoC.skip ?_
 refine GoK.code ?_
 refine GoC.seq ?_
 refine GoC.block ?_
 refine GoC.seq ?_
 refine GoC.region ?_
 refine GoO.pure (ps_move rfl rfl) ?_
 refine GoO.pure (ps_indexAddrRN rfl rfl hnk12 rfl) ?_
 refine GoO.pure (ps_loadAgR rfl hnk12 rfl rfl) ?_
 refine GoO.effB (ef_alloc rfl) (fun β14 => ?_)
 refine GoO.pure (ps_assign rfl rfl) ?_
 refine GoO.eff1 (ef_storeAg rfl rfl At.p0 upd_whole Nat.zero_lt_one rfl) ?_
 refine GoO.nil ?_
 refine GoK.code ?_
 refine GoC.seq ?_
 refine GoC.seq ?_
 refine GoC.region ?_
 refine GoO.pure (ps_fieldAddr rfl rfl) ?_
 refine GoO.pure (ps_load rfl At.p0 At.p0 Nat.zero_lt_one rfl rfl) ?_
 refine GoO.pure (ps_len rfl (by constructor) rfl) ?_
 refine GoO.lenLe (n := ((p0.getD k12 El.d).arcs).length) (x := .tmp 25) rfl (by constructor) sl_lenLe (fun ml15 => ?_)
 refine GoO.pure (ps_move rfl rfl) ?_
 refine GoO.nil ?_
 refine GoK.code ?_
 have hb := bind_l H; clear H
 obtain ⟨q19, hl28, HK17⟩ := hb
 refine GoC.blockJ [(2, .rp 1 1 (row [c_1]).get 0 0), (8, .v (.int .i64 x6)), (9, .v (.int .i64 ((k12 : Nat) : Int))), (10, .ptr β14 2 0 0), (17, slD p0), (18, .v (.int .i64 ((p0.length : Nat) : Int))), (19, .v (.int .i64 ((k12 : Nat) : Int)))] [.one β14 45 2 (st1 (nth [.v (.int .i64 ((p0.getD k12 El.d).amount)), slD ((p0.getD k12 El.d).arcs)]))] (fun v h => ∃ (l20 : (List Int)), q19 = .go l20 ∧ v = [(7, .own β2 1 0 l20.length)] ∧ h = [.one β2 3 1 (row l20)]) ?_ ?_
 refine GoC.loopJ [(2, _), (8, _), (9, _), (10, _), (17, _), (18, _), (19, _), (25, _), (26, _)] [.one β14 45 2 (st1 (nth [.v (.int .i64 ((p0.getD k12 El.d).amount)), slD ((p0.getD k12 El.d).arcs)]))] (fun m v h => ∃ (k21 : Nat) (l16 : (List Int)), (k21 + m = ((p0.getD k12 El.d).arcs).length ∧ forC (weirkeep_FlowPieces_c1_B2 p0 k12) m k21 l16 = some q19) ∧ v = [(27, .v (.int .i64 ((k21 : Nat) : Int))), (7, .own β2 1 0 l16.length)] ∧ h = [.one β2 3 1 (row l16)]) (((p0.getD k12 El.d).arcs).length) ⟨_, _, ⟨by omega, hl28⟩, rfl, rfl⟩ (EnvD.eq rfl (EnvD.cons rfl (DLe.len (by first | rfl | omega | (simp only [row_len] <;> first | rfl | omega))) (EnvD.eq rfl (EnvD.eq rfl (EnvD.eq rfl (EnvD.eq rfl (EnvD.eq rfl (EnvD.eq rfl (EnvD.eq rfl (EnvD.eq rfl (EnvD.eq rfl (EnvD.nil)))))))))))) (TkD.cons _ _ _ _ _ Rem.p1 (HLe.refl _) (TkD.cons _ _ _ _ _ Rem.p0 (HLe.st ⟨⟨trivial, DLe.refl _⟩, DLe.refl _⟩) (TkD.nil _))) ?_
 rintro m22 v h ⟨k21, l16, ⟨hkk21, hF18⟩, rfl, rfl⟩
 refine GoC.seq ?_
 refine GoC.region ?_
 refine GoO.pure (ps_lss rfl rfl rfl) ?_
 refine GoO.nil ?_
 refine GoK.code ?_
 refine GoC.seq ?_
 refine GoC.condD rfl (fun (hk21 : (k21 : Int) < ((((p0.getD k12 El.d).arcs).length : Nat) : Int)) => ?_) (fun (hk21 : ¬ (k21 : Int) < ((((p0.getD k12 El.d).arcs).length : Nat) : Int)) => ?_)
 obtain ⟨m22', rfl⟩ : ∃ x, m22 = x + 1 := ⟨m22 - 1, by omega⟩
 have hb := bind_l hF18; clear hF18
 obtain ⟨qrm22, H, hF18⟩ := hb
 have hnk21 : k21 < ((p0.getD k12 El.d).arcs).length := by omega
 have hIk21 : InI ((k21 : Int) + 1) := inI_len hk21 ml15
 refine GoC.skip ?_
 refine GoK.code ?_
 refine GoC.seq ?_
 refine GoC.block ?_
 refine GoC.seq ?_
 refine GoC.region ?_
 refine GoO.pure (ps_indexAddrRN rfl rfl hnk21 rfl) ?_
 refine GoO.pure (ps_loadR rfl hnk21 rfl rfl) ?_
 refine GoO.pure (ps_assign rfl rfl) ?_
 refine GoO.nil ?_
 refine GoK.code ?_
 refine GoC.seq ?_
 refine GoC.seq ?_
 refine GoC.region ?_
 refine GoO.pure (ps_move rfl rfl) ?_
 refine GoO.pure (ps_lss rfl rfl rfl) ?_
 refine GoO.pure (ps_move rfl rfl) ?_
 refine GoO.guardE rfl rfl rfl rfl (fun h23 => ?_) (fun h23 => ?_)
 replace H := ite_f h23 H
 refine GoO.pure (ps_move rfl rfl) ?_
 refine GoO.guardT rfl rfl rfl ?_
 refine GoO.pure (ps_move rfl rfl) ?_
 refine GoO.guardT rfl rfl rfl ?_
 refine GoO.pure (ps_len rfl (by constructor) rfl) ?_
 refine GoO.lenLe (n := l16.length) (x := .tmp 35) rfl (by constructor) own_lenLe (fun ml24 => ?_)
 refine GoO.guardT rfl rfl rfl ?_
 refine GoO.pure (ps_geq rfl rfl rfl) ?_
 refine GoO.pure (ps_pickF rfl rfl rfl) ?_
 refine GoO.nil ?_
 refine GoK.code ?_
 refine GoC.condD rfl (fun h25 => ?_) (fun h25 => ?_)
 replace H := ite_t h25 H
 refine GoC.seq ?_
 refine GoC.region ?_
 refine GoO.pure (ps_assign rfl rfl) ?_
 refine GoO.pure (ps_assign rfl rfl) ?_
 refine GoO.pure (ps_assign rfl rfl) ?_
 refine GoO.nil ?_
 refine GoK.code ?_
 obtain rfl := Option.some.inj H
 obtain rfl := Option.some.inj hF18
 obtain rfl := Option.some.inj HK17
 obtain rfl := Option.some.inj hF8
 obtain rfl := Option.some.inj HK7
 refine GoC.le (le_row0 3 1 (row ([] : List Int)) rfl) ?_
 exact GoC.retL (ds := [.own ⟨0, 0, 0⟩ 1 0 0, .v (.int .i64 0), .v (.bool false)]) Try.results24 (ResL.cons (ResD.le (ResD.tmp rfl) (by exact DLe.nilOwn)) (ResL.cons (ResD.tmp rfl) (ResL.cons (ResD.tmp rfl) (ResL.nil)))) (Take.cons _ _ _ _ _ Rem.p0 (Take.nil _)) ⟨⟨0, 0, 0⟩, rfl, rfl⟩
 replace H := ite_f h25 H
 refine GoC.skip ?_
 refine GoK.code ?_
 refine GoC.drawP (.q 0 (.q 1 (.q 2 (.q 4 (.q 5 (.one 3 (.q 6 (.q 7 (.one 8 (.done)))))))))) [(10, _, _, _)] follows (by kernel_rfl) (Take.cons _ _ _ _ _ Rem.p1 (Take.nil _)) ?_
 refine GoP.qN rfl (ps_move rfl rfl) ?_
 refine GoP.qN rfl (ps_move rfl rfl) ?_
 have c26 := ck_l H; replace H := ck_r H
 refine GoP.qN rfl (ps_indexAddr0 rfl rfl c26 rfl) ?_
 refine GoP.qN rfl (ps_fieldAddr rfl rfl) ?_
 refine GoP.qN rfl (ps_load rfl At.p1 At.p0 Nat.zero_lt_one rfl rfl) ?_
 refine GoP.oneN rfl (ps_load rfl At.p0 At.p0 (idx_lt c26) rfl rfl) (Take.cons _ _ _ _ _ Rem.p1 (Take.nil _)) ?_
 have c27 := ck_l H; replace H := ck_r H
 refine GoP.qN rfl (ps_add rfl rfl rfl c27) ?_
 refine GoP.qN rfl (ps_indexAddr0 rfl rfl c26 rfl) ?_
 refine GoP.one1 rfl trivial (ef_store rfl rfl rfl At.p0 (upd_row1 (v := ((l16.getD ((((p0.getD k12 El.d).arcs).getD k21 (0 : Int)).toNat) (0 : Int)) + ((p0.getD k12 El.d).amount))) rfl) (idx_lt c26) rfl) (Take.cons _ _ _ _ _ Rem.p0 (Take.cons _ _ _ _ _ Rem.p0 (Take.nil _))) ?_
 refine GoP.done ?_
 refine GoK.blk ?_
 refine GoK.code ?_
 refine GoC.region ?_
 refine GoO.pure (ps_add rfl rfl rfl hIk21) ?_
 refine GoO.pure (ps_move rfl rfl) ?_
 refine GoO.nil ?_
 obtain rfl := Option.some.inj H
 exact GoK.againJ m22' (by omega) ⟨_, _, ⟨by omega, hF18⟩, rfl, rfl⟩ (EnvD.eq rfl (EnvD.cons rfl (DLe.len (by first | rfl | omega | (simp only [row_len, List.length_set] <;> first | rfl | omega))) (EnvD.eq rfl (EnvD.eq rfl (EnvD.eq rfl (EnvD.eq rfl (EnvD.eq rfl (EnvD.eq rfl (EnvD.eq rfl (EnvD.eq rfl (EnvD.eq rfl (EnvD.nil)))))))))))) (TkD.cons _ _ _ _ _ Rem.p0 (HLe.refl _) (TkD.cons _ _ _ _ _ Rem.p0 (HLe.st ⟨⟨trivial, DLe.refl _⟩, DLe.refl _⟩) (TkD.nil _)))
 replace H := ite_t h23 H
 refine GoO.guardF rfl rfl rfl rfl ?_
 refine GoO.guardF rfl rfl rfl rfl ?_
 refine GoO.guardF rfl rfl rfl rfl ?_
 refine GoO.pure (ps_pickT rfl rfl rfl) ?_
 refine GoO.nil ?_
 refine GoK.code ?_
 refine GoC.condT rfl ?_
 refine GoC.seq ?_
 refine GoC.region ?_
 refine GoO.pure (ps_assign rfl rfl) ?_
 refine GoO.pure (ps_assign rfl rfl) ?_
 refine GoO.pure (ps_assign rfl rfl) ?_
 refine GoO.nil ?_
 refine GoK.code ?_
 obtain rfl := Option.some.inj H
 obtain rfl := Option.some.inj hF18
 obtain rfl := Option.some.inj HK17
 obtain rfl := Option.some.inj hF8
 obtain rfl := Option.some.inj HK7
 refine GoC.le (le_row0 3 1 (row ([] : List Int)) rfl) ?_
 exact GoC.retL (ds := [.own ⟨0, 0, 0⟩ 1 0 0, .v (.int .i64 0), .v (.bool false)]) Try.results24 (ResL.cons (ResD.le (ResD.tmp rfl) (by exact DLe.nilOwn)) (ResL.cons (ResD.tmp rfl) (ResL.cons (ResD.tmp rfl) (ResL.nil)))) (Take.cons _ _ _ _ _ Rem.p0 (Take.nil _)) ⟨⟨0, 0, 0⟩, rfl, rfl⟩
 obtain rfl : m22 = 0 := by omega
 refine GoC.exit rfl ?_
 cases hF18
 exact GoK.meet ⟨_, rfl, rfl, rfl⟩ (EnvD.cons rfl (DLe.len (by first | rfl | omega | (simp only [row_len] <;> first | rfl | omega))) (EnvD.eq rfl (EnvD.eq rfl (EnvD.eq rfl (EnvD.eq rfl (EnvD.eq rfl (EnvD.eq rfl (EnvD.eq rfl (EnvD.nil))))))))) (TkD.cons _ _ _ _ _ Rem.p0 (HLe.refl _) (TkD.cons _ _ _ _ _ Rem.p0 (HLe.st ⟨⟨trivial, DLe.refl _⟩, DLe.refl _⟩) (TkD.nil _)))
 rintro v h ⟨l20, rfl, rfl, rfl⟩
 have H := HK17; clear HK17
 refine GoK.code ?_
 refine GoC.seq ?_
 refine GoC.region ?_
 refine GoO.pure (ps_move rfl rfl) ?_
 refine GoO.pure (ps_loadR rfl Nat.zero_lt_one rfl rfl) ?_
 refine GoO.pure (ps_len rfl (by constructor) rfl) ?_
 refine GoO.lenLe (n := c_1.length) (x := .tmp 49) rfl (by constructor) sl_lenLe (fun ml29 => ?_)
 refine GoO.pure (ps_lss rfl rfl rfl) ?_
 refine GoO.nil ?_
 refine GoK.code ?_
 refine GoC.condD rfl (fun h30 => ?_) (fun h30 => ?_)
 replace H := ite_t h30 H
 refine GoC.region ?_
 refine GoO.pure (ps_move rfl rfl) ?_
 refine GoO.pure (ps_fieldAddr rfl rfl) ?_
 refine GoO.pure (ps_load rfl At.p1 At.p1 Nat.zero_lt_one rfl rfl) ?_
 have c31 := ck_l H; replace H := ck_r H
 refine GoO.pure (ps_add rfl rfl rfl c31) ?_
 refine GoO.pure (ps_assign rfl rfl) ?_
 refine GoO.nil ?_
 refine GoK.blk ?_
 refine GoK.code ?_
 refine GoC.region ?_
 refine GoO.pure (ps_add rfl rfl rfl hIk12) ?_
 refine GoO.pure (ps_move rfl rfl) ?_
 refine GoO.nil ?_
 obtain rfl := Option.some.inj H
 exact GoK.againJ m13' (by omega) ⟨_, _, _, ⟨by omega, hF8⟩, rfl, rfl⟩ (EnvD.eq rfl (EnvD.cons rfl (DLe.len (by first | rfl | omega | (simp only [row_len] <;> first | rfl | omega))) (EnvD.eq rfl (EnvD.eq rfl (EnvD.eq rfl (EnvD.eq rfl (EnvD.nil))))))) (TkD.cons _ _ _ _ _ Rem.p0 (HLe.refl _) (TkD.nil _))
 replace H := ite_f h30 H
 refine GoC.skip ?_
 refine GoK.blk ?_
 refine GoK.code ?_
 refine GoC.region ?_
 refine GoO.pure (ps_add rfl rfl rfl hIk12) ?_
 refine GoO.pure (ps_move rfl rfl) ?_
 refine GoO.nil ?_
 obtain rfl := Option.some.inj H
 exact GoK.againJ m13' (by omega) ⟨_, _, _, ⟨by omega, hF8⟩, rfl, rfl⟩ (EnvD.eq rfl (EnvD.cons rfl (DLe.len (by first | rfl | omega | (simp only [row_len] <;> first | rfl | omega))) (EnvD.eq rfl (EnvD.eq rfl (EnvD.eq rfl (EnvD.eq rfl (EnvD.nil))))))) (TkD.cons _ _ _ _ _ Rem.p0 (HLe.refl _) (TkD.nil _))
 obtain rfl : m13 = 0 := by omega
 refine GoC.exit rfl ?_
 cases hF8
 exact GoK.meet ⟨_, _, rfl, rfl, rfl⟩ (EnvD.cons rfl (DLe.len (by first | rfl | omega | (simp only [row_len] <;> first | rfl | omega))) (EnvD.eq rfl (EnvD.nil))) (TkD.cons _ _ _ _ _ Rem.p0 (HLe.refl _) (TkD.nil _))
 rintro v h ⟨l10, x11, rfl, rfl, rfl⟩
 have H := HK7; clear HK7
 refine GoK.code ?_
 refine GoC.seq ?_
 refine GoC.region ?_
 refine GoO.pure (ps_move rfl rfl) ?_
 refine GoO.pure (ps_move rfl rfl) ?_
 refine GoO.pure (ps_assign rfl rfl) ?_
 refine GoO.pure (ps_assign rfl rfl) ?_
 refine GoO.pure (ps_assign rfl rfl) ?_
 refine GoO.nil ?_
 refine GoK.code ?_
 obtain rfl := Option.some.inj H
 exact GoC.retL (ds := [.own β2 1 0 l10.length, .v (.int .i64 x11), .v (.bool true)]) Try.results24 (ResL.cons (ResD.tmp rfl) (ResL.cons (ResD.tmp rfl) (ResL.cons (ResD.tmp rfl) (ResL.nil)))) (Take.cons _ _ _ _ _ Rem.p0 (Take.nil _)) ⟨β2, rfl, rfl⟩

def weirkeep_FlowPieces_F (n : Net) (f : (List Int)) (many : Int) : Option (Bool) :=
 (weirkeep_weir_F).bind fun r2 =>
 (flow_Split_F r2 ([3, 2, 2, 1, 3] : List Int)).bind fun (r6, r8, r10) =>
 if r10 ≠ 0 then
  some false
 else
  if ((r6.length : Nat) : Int) = 0 then
   some false
  else
   if 5 < ((r6.length : Nat) : Int) then
    some false
   else
    (flow_Split_F n f).bind fun (r16, r18, r20) =>
    if r20 ≠ 0 then
     ck (InI (((r16.length : Nat) : Int) + ((r18.length : Nat) : Int))) <|
     some (decide ((((r16.length + r18.length) : Nat) : Int) = 0))
    else
     (slices_Concat_Piece_F ([r16, r18] : List (List Piece))).bind fun r28 =>
     ck (InI (((r28.length : Nat) : Int) + 1)) <|
     (weirref_Rest_F many (((r28.length + 1) : Nat) : Int)).bind fun r33 =>
     ck (0 ≤ r33) <|
     ck (r33.toNat ≤ r28.length) <|
     (weirkeep_FlowPieces_c1_F (subl r28 (0 + 0) (r33.toNat)) n r16).bind fun (r37, r39, r40) =>
     (weirkeep_FlowPieces_c1_F r28 n r16).bind fun (r42, r44, r45) =>
     if (!r40) = true then
      some false
     else
      if (!r45) = true then
       some false
      else
       (flow_Value_F n r37).bind fun (r49, r50) =>
       if r50 = 0 then
        if r49 = r39 then
         (slices_Equal_int_F r42 f).bind fun r54 =>
         some r54
        else
         some false
       else
        some false
def weirkeep_FlowPieces_P (out : Bool) (d : D) (H : List HL) : Prop := d = .v (.bool out) ∧ H = []
theorem weirkeep_FlowPieces_I (out : Bool) : IndepP (weirkeep_FlowPieces_P out) := IndepP.of (by rintro _ _ ⟨rfl, rfl⟩; exact ⟨inferInstance, inferInstance⟩)
set_option maxRecDepth 100000 in
set_option maxHeartbeats 4000000 in
theorem weirkeep_FlowPieces_spec (n : Net) (f : (List Int)) (many : Int) {out : Bool} (H : weirkeep_FlowPieces_F n f many = some out) : Does Try.prog 6 [.ag 4 (nth [.v (.int .i64 n.n), .v (.int .i64 n.s), .v (.int .i64 n.t), slD n.as]), slD f, .v (.int .i64 many)] [] (weirkeep_FlowPieces_P out) := by
 unfold weirkeep_FlowPieces_F at H
 refine Does.intro Try.func6 rfl Try.ntmps6 rfl fun w0 I0 => ?_
 refine GoC.seq ?_
 refine GoC.region ?_
 refine GoO.effB (ef_boxAg rfl rfl) (fun β1 => ?_)
 refine GoO.pure (ps_assign rfl rfl) ?_
 refine GoO.nil ?_
 refine GoK.code ?_
 refine GoC.seq ?_
 refine GoC.seq ?_
 refine GoC.region ?_
 have hb := bind_l H; clear H
 obtain ⟨r2, e4, H⟩ := hb
 refine GoO.effC (ef_call rfl (Take.nil _) (Take.nil _) (weirkeep_weir_spec e4) (LendL.nil) rfl (weirkeep_weir_I (r2))) (fun rr HH hp => ?_)
 obtain ⟨β3, rfl, rfl⟩ := hp
 refine GoO.effB (ef_buildSlice (row ([3, 2, 2, 1, 3] : List Int)) rfl (Parts.cons _ _ _ _ _ _ _ _ ⟨rfl, rfl⟩ (Part.one _ rfl rfl) rfl rfl (Parts.cons _ _ _ _ _ _ _ _ ⟨rfl, rfl⟩ (Part.one _ rfl rfl) rfl rfl (Parts.cons _ _ _ _ _ _ _ _ ⟨rfl, rfl⟩ (Part.one _ rfl rfl) rfl rfl (Parts.cons _ _ _ _ _ _ _ _ ⟨rfl, rfl⟩ (Part.one _ rfl rfl) rfl rfl (Parts.cons _ _ _ _ _ _ _ _ ⟨rfl, rfl⟩ (Part.one _ rfl rfl) rfl rfl (Parts.nil _)))))) rfl rfl rfl rfl) (fun β5 => ?_)
 have hb := bind_l H; clear H
 obtain ⟨⟨r6, r8, r10⟩, e11, H⟩ := hb
 refine GoO.callF rfl (Take.nil _) (Take.cons _ _ _ _ _ Rem.p1 (Take.cons _ _ _ _ _ Rem.p0 (Take.nil _))) (flow_Split_spec r2 ([3, 2, 2, 1, 3] : List Int) e11) (LendL.cons (Lend.agA ⟨⟨⟨⟨trivial, Lend.refl _ _⟩, Lend.refl _ _⟩, Lend.refl _ _⟩, Lend.all' At.p0 (by first | rfl | omega | (simp only [subl_length, cpl_length, List.length_set, List.length_append, List.length_cons, List.length_nil, List.length_replicate, row_len] <;> first | rfl | omega)) rfl⟩) (LendL.cons (Lend.all' At.p1 (by first | rfl | omega | (simp only [subl_length, cpl_length, List.length_set, List.length_append, List.length_cons, List.length_nil, List.length_replicate, row_len] <;> first | rfl | omega)) rfl) (LendL.nil))) rfl no_fps (fun rr HH hp => ?_)
 obtain ⟨β7, β9, rfl, rfl⟩ := hp
 refine GoO.pure (ps_move rfl rfl) ?_
 refine GoO.pure (ps_extract rfl rfl rfl) ?_
 refine GoO.pure (ps_extract rfl rfl rfl) ?_
 refine GoO.pure (ps_extract rfl rfl rfl) ?_
 refine GoO.pure (ps_assign rfl rfl) ?_
 refine GoO.pure (ps_assign rfl rfl) ?_
 refine GoO.pure (ps_assign rfl rfl) ?_
 refine GoO.nil ?_
 refine GoK.code ?_
 refine GoC.seq ?_
 refine GoC.region ?_
 refine GoO.pure (ps_move rfl rfl) ?_
 refine GoO.pure (ps_neq rfl rfl rfl) ?_
 refine GoO.pure (ps_move rfl rfl) ?_
 refine GoO.guardE rfl rfl rfl rfl (fun h12 => ?_) (fun h12 => ?_)
 replace H := ite_f h12 H
 refine GoO.pure (ps_move rfl rfl) ?_
 refine GoO.guardT rfl rfl rfl ?_
 refine GoO.pure (ps_len rfl (by constructor) rfl) ?_
 refine GoO.lenLe (n := r6.length) (x := .tmp 33) rfl (by constructor) own_lenLe (fun ml13 => ?_)
 refine GoO.guardT rfl rfl rfl ?_
 refine GoO.pure (ps_eql rfl rfl rfl) ?_
 refine GoO.pure (ps_pickF rfl rfl rfl) ?_
 refine GoO.pure (ps_move rfl rfl) ?_
 refine GoO.guardE rfl rfl rfl rfl (fun h14 => ?_) (fun h14 => ?_)
 replace H := ite_f h14 H
 refine GoO.pure (ps_move rfl rfl) ?_
 refine GoO.guardT rfl rfl rfl ?_
 refine GoO.pure (ps_len rfl (by constructor) rfl) ?_
 refine GoO.guardT rfl rfl rfl ?_
 refine GoO.pure (ps_gtr rfl rfl rfl) ?_
 refine GoO.pure (ps_pickF rfl rfl rfl) ?_
 refine GoO.nil ?_
 refine GoK.code ?_
 refine GoC.condD rfl (fun h15 => ?_) (fun h15 => ?_)
 replace H := ite_t h15 H
 refine GoC.seq ?_
 refine GoC.region ?_
 refine GoO.pure (ps_assign rfl rfl) ?_
 refine GoO.nil ?_
 refine GoK.code ?_
 obtain rfl := Option.some.inj H
 exact GoC.retL (ds := [.v (.bool false)]) Try.results6 (ResL.cons (ResD.tmp rfl) (ResL.nil)) (Take.nil _) ⟨rfl, rfl⟩
 replace H := ite_f h15 H
 refine GoC.skip ?_
 refine GoK.code ?_
 refine GoC.seq ?_
 refine GoC.region ?_
 refine GoO.pure (ps_loadAg rfl At.p2 At.p2 Nat.zero_lt_one rfl rfl) ?_
 refine GoO.pure (ps_move rfl rfl) ?_
 have hb := bind_l H; clear H
 obtain ⟨⟨r16, r18, r20⟩, e21, H⟩ := hb
 refine GoO.callF rfl (Take.nil _) (Take.nil _) (flow_Split_spec n f e21) (LendL.cons (Lend.agA ⟨⟨⟨⟨trivial, Lend.refl _ _⟩, Lend.refl _ _⟩, Lend.refl _ _⟩, Lend.refl _ _⟩) (LendL.cons (Lend.refl _ _) (LendL.nil))) rfl no_fps (fun rr HH hp => ?_)
 obtain ⟨β17, β19, rfl, rfl⟩ := hp
 refine GoO.pure (ps_move rfl rfl) ?_
 refine GoO.pure (ps_extract rfl rfl rfl) ?_
 refine GoO.pure (ps_extract rfl rfl rfl) ?_
 refine GoO.pure (ps_extract rfl rfl rfl) ?_
 refine GoO.effB (ef_alloc rfl) (fun β22 => ?_)
 refine GoO.eff1 (ef_store rfl rfl rfl At.p0 upd_st1 Nat.zero_lt_one rfl) ?_
 refine GoO.pure (ps_assign rfl rfl) ?_
 refine GoO.pure (ps_assign rfl rfl) ?_
 refine GoO.nil ?_
 refine GoK.code ?_
 refine GoC.seq ?_
 refine GoC.seq ?_
 refine GoC.region ?_
 refine GoO.pure (ps_move rfl rfl) ?_
 refine GoO.pure (ps_neq rfl rfl rfl) ?_
 refine GoO.nil ?_
 refine GoK.code ?_
 refine GoC.condD rfl (fun h23 => ?_) (fun h23 => ?_)
 replace H := ite_t h23 H
 refine GoC.seq ?_
 refine GoC.region ?_
 refine GoO.pure (ps_load rfl At.p0 At.p0 Nat.zero_lt_one rfl rfl) ?_
 refine GoO.pure (ps_len rfl (by constructor) rfl) ?_
 refine GoO.lenLe (n := r16.length) (x := .tmp 51) rfl (by constructor) own_lenLe (fun ml24 => ?_)
 refine GoO.pure (ps_move rfl rfl) ?_
 refine GoO.pure (ps_len rfl (by constructor) rfl) ?_
 refine GoO.lenLe (n := r18.length) (x := .tmp 53) rfl (by constructor) own_lenLe (fun ml25 => ?_)
 have c26 := ck_l H; replace H := ck_r H
 refine GoO.pure (ps_add rfl rfl rfl c26) ?_
 refine GoO.pure (ps_eql rfl rfl rfl) ?_
 refine GoO.pure (ps_assign rfl rfl) ?_
 refine GoO.nil ?_
 refine GoK.code ?_
 obtain rfl := Option.some.inj H
 exact GoC.retL (ds := [.v (.bool (decide ((((r16.length + r18.length) : Nat) : Int) = 0)))]) Try.results6 (ResL.cons (ResD.tmp rfl) (ResL.nil)) (Take.nil _) ⟨rfl, rfl⟩
 replace H := ite_f h23 H
 refine GoC.skip ?_
 refine GoK.code ?_
 refine GoC.seq ?_
 refine GoC.region ?_
 refine GoO.pure (ps_load rfl At.p0 At.p0 Nat.zero_lt_one rfl rfl) ?_
 refine GoO.pure (ps_move rfl rfl) ?_
 refine GoO.freezeB (j := 57) (r' := slD r16) rfl Rem.p1 (Lend.all' At.p0 (by first | rfl | omega | (simp only [row_len] <;> first | rfl | omega)) rfl) no_fps (g' := nth [slD r16]) At.p0 ⟨trivial, Lend.all' At.p0 (by first | rfl | omega | (simp only [row_len] <;> first | rfl | omega)) rfl⟩ ?_
 refine GoO.freezeJ (j := 58) rfl Rem.p1 (Lend.all' At.p0 (by first | rfl | omega | (simp only [row_len] <;> first | rfl | omega)) rfl) no_fps ?_
 refine GoO.effB (ef_buildSlice (row ([r16, r18] : List (List Piece))) rfl (Parts.cons _ _ _ _ _ _ _ _ ⟨rfl, rfl⟩ (Part.one _ rfl rfl) rfl rfl (Parts.cons _ _ _ _ _ _ _ _ ⟨rfl, rfl⟩ (Part.one _ rfl rfl) rfl rfl (Parts.nil _))) rfl rfl rfl rfl) (fun β27 => ?_)
 have hb := bind_l H; clear H
 obtain ⟨r28, e30, H⟩ := hb
 refine GoO.callF rfl (Take.nil _) (Take.cons _ _ _ _ _ Rem.p0 (Take.nil _)) (slices_Concat_Piece_spec ([r16, r18] : List (List Piece)) e30) (LendL.cons (Lend.all' At.p0 (by first | rfl | omega | (simp only [subl_length, cpl_length, List.length_set, List.length_append, List.length_cons, List.length_nil, List.length_replicate, row_len] <;> first | rfl | omega)) rfl) (LendL.nil)) rfl no_fps (fun rr HH hp => ?_)
 obtain ⟨β29, rfl, rfl⟩ := hp
 refine GoO.pure (ps_assign rfl rfl) ?_
 refine GoO.nil ?_
 refine GoK.code ?_
 refine GoC.seq ?_
 refine GoC.region ?_
 refine GoO.pure (ps_move rfl rfl) ?_
 refine GoO.pure (ps_move rfl rfl) ?_
 refine GoO.pure (ps_len rfl (by constructor) rfl) ?_
 refine GoO.lenLe (n := r28.length) (x := .tmp 62) rfl (by constructor) own_lenLe (fun ml31 => ?_)
 have c32 := ck_l H; replace H := ck_r H
 refine GoO.pure (ps_add rfl rfl rfl c32) ?_
 have hb := bind_l H; clear H
 obtain ⟨r33, e34, H⟩ := hb
 refine GoO.effC (ef_call rfl (Take.nil _) (Take.nil _) (weirref_Rest_spec many (((r28.length + 1) : Nat) : Int) e34) (LendL.cons (Lend.refl _ _) (LendL.cons (Lend.refl _ _) (LendL.nil))) rfl (weirref_Rest_I (r33))) (fun rr HH hp => ?_)
 obtain ⟨rfl, rfl⟩ := hp
 refine GoO.pure (ps_assign rfl rfl) ?_
 refine GoO.nil ?_
 refine GoK.code ?_
 refine GoC.seq ?_
 refine GoC.region ?_
 refine GoO.pure (ps_makeFunc rfl rfl rfl) ?_
 refine GoO.pure (ps_assign rfl rfl) ?_
 refine GoO.nil ?_
 refine GoK.code ?_
 refine GoC.seq ?_
 refine GoC.region ?_
 refine GoO.pure (ps_move rfl rfl) ?_
 refine GoO.pure (ps_move rfl rfl) ?_
 refine GoO.pure (ps_move rfl rfl) ?_
 have c35 := ck_l H; replace H := ck_r H
 have c36 := ck_l H; replace H := ck_r H
 refine GoO.pure (ps_slice rfl (Bd.no _) (Bd.int _ _ _ _ rfl c35) (Nat.zero_le _) c36 rfl) ?_
 have hb := bind_l H; clear H
 obtain ⟨⟨r37, r39, r40⟩, e41, H⟩ := hb
 refine GoO.effC (ef_callv rfl rfl rfl (Take.nil _) (Take.cons _ _ _ _ _ Rem.p0 (Take.cons _ _ _ _ _ Rem.p3 (Take.cons _ _ _ _ _ Rem.p0 (Take.nil _)))) (weirkeep_FlowPieces_c1_spec (subl r28 (0 + 0) (r33.toNat)) n r16 e41) (LendL.cons ((Lend.own At.p0 (by first | omega | (simp only [subl_length, cpl_length, List.length_set, List.length_append, List.length_cons, List.length_nil, List.length_replicate, row_len]; omega) | (simp only [subl_length, cpl_length, List.length_set, List.length_append, List.length_cons, List.length_nil, List.length_replicate, row_len]; done))).le (DLe.part (xs := r28) (r := 0 + 0) (len := (r33.toNat)) (by first | omega | (simp only [subl_length, cpl_length, List.length_set, List.length_append, List.length_cons, List.length_nil, List.length_replicate, row_len]; omega) | (simp only [subl_length, cpl_length, List.length_set, List.length_append, List.length_cons, List.length_nil, List.length_replicate, row_len]; done)))) (LendL.cons (Lend.box (ds := [.v (.int .i64 n.n), .v (.int .i64 n.s), .v (.int .i64 n.t), slD n.as]) At.p1 rfl (by decide) ⟨⟨⟨⟨trivial, rfl⟩, rfl⟩, rfl⟩, rfl⟩ (LendL.cons (Lend.refl _ _) (LendL.cons (Lend.refl _ _) (LendL.cons (Lend.refl _ _) (LendL.cons (Lend.refl _ _) (LendL.nil))))) ⟨⟨⟨⟨trivial, rfl⟩, rfl⟩, rfl⟩, rfl⟩ rfl) (LendL.cons (Lend.box (ds := [slD r16]) At.p2 rfl (by decide) ⟨trivial, rfl⟩ (LendL.cons (Lend.refl _ _) (LendL.nil)) ⟨trivial, rfl⟩ rfl) (LendL.nil)))) rfl (weirkeep_FlowPieces_c1_I (r37, r39, r40))) (fun rr HH hp => ?_)
 obtain ⟨β38, rfl, rfl⟩ := hp
 refine GoO.pure (ps_move rfl rfl) ?_
 refine GoO.pure (ps_extract rfl rfl rfl) ?_
 refine GoO.pure (ps_extract rfl rfl rfl) ?_
 refine GoO.pure (ps_extract rfl rfl rfl) ?_
 refine GoO.pure (ps_assign rfl rfl) ?_
 refine GoO.pure (ps_assign rfl rfl) ?_
 refine GoO.pure (ps_assign rfl rfl) ?_
 refine GoO.nil ?_
 refine GoK.code ?_
 refine GoC.seq ?_
 refine GoC.region ?_
 refine GoO.pure (ps_move rfl rfl) ?_
 refine GoO.pure (ps_move rfl rfl) ?_
 have hb := bind_l H; clear H
 obtain ⟨⟨r42, r44, r45⟩, e46, H⟩ := hb
 refine GoO.effC (ef_callv rfl rfl rfl (Take.nil _) (Take.cons _ _ _ _ _ Rem.p1 (Take.cons _ _ _ _ _ Rem.p4 (Take.cons _ _ _ _ _ Rem.p1 (Take.nil _)))) (weirkeep_FlowPieces_c1_spec r28 n r16 e46) (LendL.cons (Lend.all' At.p0 (by first | rfl | omega | (simp only [subl_length, cpl_length, List.length_set, List.length_append, List.length_cons, List.length_nil, List.length_replicate, row_len] <;> first | rfl | omega)) rfl) (LendL.cons (Lend.box (ds := [.v (.int .i64 n.n), .v (.int .i64 n.s), .v (.int .i64 n.t), slD n.as]) At.p1 rfl (by decide) ⟨⟨⟨⟨trivial, rfl⟩, rfl⟩, rfl⟩, rfl⟩ (LendL.cons (Lend.refl _ _) (LendL.cons (Lend.refl _ _) (LendL.cons (Lend.refl _ _) (LendL.cons (Lend.refl _ _) (LendL.nil))))) ⟨⟨⟨⟨trivial, rfl⟩, rfl⟩, rfl⟩, rfl⟩ rfl) (LendL.cons (Lend.box (ds := [slD r16]) At.p2 rfl (by decide) ⟨trivial, rfl⟩ (LendL.cons (Lend.refl _ _) (LendL.nil)) ⟨trivial, rfl⟩ rfl) (LendL.nil)))) rfl (weirkeep_FlowPieces_c1_I (r42, r44, r45))) (fun rr HH hp => ?_)
 obtain ⟨β43, rfl, rfl⟩ := hp
 refine GoO.pure (ps_move rfl rfl) ?_
 refine GoO.pure (ps_extract rfl rfl rfl) ?_
 refine GoO.pure (ps_extract rfl rfl rfl) ?_
 refine GoO.pure (ps_extract rfl rfl rfl) ?_
 refine GoO.pure (ps_assign rfl rfl) ?_
 refine GoO.pure (ps_assign rfl rfl) ?_
 refine GoO.pure (ps_assign rfl rfl) ?_
 refine GoO.nil ?_
 refine GoK.code ?_
 refine GoC.seq ?_
 refine GoC.seq ?_
 refine GoC.region ?_
 refine GoO.pure (ps_move rfl rfl) ?_
 refine GoO.pure (ps_not rfl rfl) ?_
 refine GoO.pure (ps_move rfl rfl) ?_
 refine GoO.guard rfl rfl rfl rfl (fun h47 => ?_) (fun h47 => ?_)
 replace H := itb_f h47 H
 refine GoO.pure (ps_move rfl rfl) ?_
 refine GoO.guardT rfl rfl rfl ?_
 refine GoO.pure (ps_not rfl rfl) ?_
 refine GoO.pure (ps_pickF rfl rfl rfl) ?_
 refine GoO.nil ?_
 refine GoK.code ?_
 refine GoC.cond rfl (fun h48 => ?_) (fun h48 => ?_)
 replace H := itb_t h48 H
 refine GoC.seq ?_
 refine GoC.region ?_
 refine GoO.pure (ps_assign rfl rfl) ?_
 refine GoO.nil ?_
 refine GoK.code ?_
 obtain rfl := Option.some.inj H
 exact GoC.retL (ds := [.v (.bool false)]) Try.results6 (ResL.cons (ResD.tmp rfl) (ResL.nil)) (Take.nil _) ⟨rfl, rfl⟩
 replace H := itb_f h48 H
 refine GoC.skip ?_
 refine GoK.code ?_
 refine GoC.seq ?_
 refine GoC.region ?_
 refine GoO.pure (ps_loadAg rfl At.p6 At.p6 Nat.zero_lt_one rfl rfl) ?_
 refine GoO.pure (ps_move rfl rfl) ?_
 have hb := bind_l H; clear H
 obtain ⟨⟨r49, r50⟩, e51, H⟩ := hb
 refine GoO.effC (ef_call rfl (Take.nil _) (Take.cons _ _ _ _ _ Rem.p1 (Take.nil _)) (flow_Value_spec n r37 e51) (LendL.cons (Lend.agA ⟨⟨⟨⟨trivial, Lend.refl _ _⟩, Lend.refl _ _⟩, Lend.refl _ _⟩, Lend.refl _ _⟩) (LendL.cons (Lend.all' At.p0 (by first | rfl | omega | (simp only [subl_length, cpl_length, List.length_set, List.length_append, List.length_cons, List.length_nil, List.length_replicate, row_len] <;> first | rfl | omega)) rfl) (LendL.nil))) rfl (flow_Value_I (r49, r50))) (fun rr HH hp => ?_)
 obtain ⟨rfl, rfl⟩ := hp
 refine GoO.pure (ps_move rfl rfl) ?_
 refine GoO.pure (ps_extract rfl rfl rfl) ?_
 refine GoO.pure (ps_extract rfl rfl rfl) ?_
 refine GoO.pure (ps_assign rfl rfl) ?_
 refine GoO.pure (ps_assign rfl rfl) ?_
 refine GoO.nil ?_
 refine GoK.code ?_
 refine GoC.seq ?_
 refine GoC.region ?_
 refine GoO.pure (ps_move rfl rfl) ?_
 refine GoO.pure (ps_eql rfl rfl rfl) ?_
 refine GoO.pure (ps_move rfl rfl) ?_
 refine GoO.guardD rfl rfl rfl rfl (fun h52 => ?_) (fun h52 => ?_)
 replace H := ite_t h52 H
 refine GoO.pure (ps_move rfl rfl) ?_
 refine GoO.guardT rfl rfl rfl ?_
 refine GoO.pure (ps_move rfl rfl) ?_
 refine GoO.guardT rfl rfl rfl ?_
 refine GoO.pure (ps_eql rfl rfl rfl) ?_
 refine GoO.pure (ps_pickT rfl rfl rfl) ?_
 refine GoO.pure (ps_move rfl rfl) ?_
 refine GoO.guardD rfl rfl rfl rfl (fun h53 => ?_) (fun h53 => ?_)
 replace H := ite_t h53 H
 refine GoO.pure (ps_move rfl rfl) ?_
 refine GoO.guardT rfl rfl rfl ?_
 refine GoO.pure (ps_move rfl rfl) ?_
 refine GoO.guardT rfl rfl rfl ?_
 have hb := bind_l H; clear H
 obtain ⟨r54, e55, H⟩ := hb
 refine GoO.effC (ef_call rfl (Take.nil _) (Take.cons _ _ _ _ _ Rem.p0 (Take.nil _)) (slices_Equal_int_spec r42 f e55) (LendL.cons (Lend.all' At.p0 (by first | rfl | omega | (simp only [subl_length, cpl_length, List.length_set, List.length_append, List.length_cons, List.length_nil, List.length_replicate, row_len] <;> first | rfl | omega)) rfl) (LendL.cons (Lend.refl _ _) (LendL.nil))) rfl (slices_Equal_int_I (r54))) (fun rr HH hp => ?_)
 obtain ⟨rfl, rfl⟩ := hp
 refine GoO.pure (ps_pickT rfl rfl rfl) ?_
 refine GoO.pure (ps_assign rfl rfl) ?_
 refine GoO.nil ?_
 refine GoK.code ?_
 obtain rfl := Option.some.inj H
 exact GoC.retL (ds := [.v (.bool r54)]) Try.results6 (ResL.cons (ResD.tmp rfl) (ResL.nil)) (Take.nil _) ⟨rfl, rfl⟩
 replace H := ite_f h53 H
 refine GoO.guardF rfl rfl rfl rfl ?_
 refine GoO.guardF rfl rfl rfl rfl ?_
 refine GoO.pure (ps_pickF rfl rfl rfl) ?_
 refine GoO.pure (ps_assign rfl rfl) ?_
 refine GoO.nil ?_
 refine GoK.code ?_
 obtain rfl := Option.some.inj H
 exact GoC.retL (ds := [.v (.bool false)]) Try.results6 (ResL.cons (ResD.tmp rfl) (ResL.nil)) (Take.nil _) ⟨rfl, rfl⟩
 replace H := ite_f h52 H
 refine GoO.guardF rfl rfl rfl rfl ?_
 refine GoO.guardF rfl rfl rfl rfl ?_
 refine GoO.pure (ps_pickF rfl rfl rfl) ?_
 refine GoO.pure (ps_move rfl rfl) ?_
 refine GoO.guardF rfl rfl rfl rfl ?_
 refine GoO.guardF rfl rfl rfl rfl ?_
 refine GoO.guardF rfl rfl rfl rfl ?_
 refine GoO.pure (ps_pickF rfl rfl rfl) ?_
 refine GoO.pure (ps_assign rfl rfl) ?_
 refine GoO.nil ?_
 refine GoK.code ?_
 obtain rfl := Option.some.inj H
 exact GoC.retL (ds := [.v (.bool false)]) Try.results6 (ResL.cons (ResD.tmp rfl) (ResL.nil)) (Take.nil _) ⟨rfl, rfl⟩
 replace H := itb_t h47 H
 refine GoO.guardF rfl rfl rfl rfl ?_
 refine GoO.pure (ps_pickT rfl rfl rfl) ?_
 refine GoO.nil ?_
 refine GoK.code ?_
 refine GoC.condT rfl ?_
 refine GoC.seq ?_
 refine GoC.region ?_
 refine GoO.pure (ps_assign rfl rfl) ?_
 refine GoO.nil ?_
 refine GoK.code ?_
 obtain rfl := Option.some.inj H
 exact GoC.retL (ds := [.v (.bool false)]) Try.results6 (ResL.cons (ResD.tmp rfl) (ResL.nil)) (Take.nil _) ⟨rfl, rfl⟩
 replace H := ite_t h14 H
 refine GoO.guardF rfl rfl rfl rfl ?_
 refine GoO.guardF rfl rfl rfl rfl ?_
 refine GoO.pure (ps_pickT rfl rfl rfl) ?_
 refine GoO.nil ?_
 refine GoK.code ?_
 refine GoC.condT rfl ?_
 refine GoC.seq ?_
 refine GoC.region ?_
 refine GoO.pure (ps_assign rfl rfl) ?_
 refine GoO.nil ?_
 refine GoK.code ?_
 obtain rfl := Option.some.inj H
 exact GoC.retL (ds := [.v (.bool false)]) Try.results6 (ResL.cons (ResD.tmp rfl) (ResL.nil)) (Take.nil _) ⟨rfl, rfl⟩
 replace H := ite_t h12 H
 refine GoO.guardF rfl rfl rfl rfl ?_
 refine GoO.guardF rfl rfl rfl rfl ?_
 refine GoO.pure (ps_pickT rfl rfl rfl) ?_
 refine GoO.pure (ps_move rfl rfl) ?_
 refine GoO.guardF rfl rfl rfl rfl ?_
 refine GoO.guardF rfl rfl rfl rfl ?_
 refine GoO.guardF rfl rfl rfl rfl ?_
 refine GoO.pure (ps_pickT rfl rfl rfl) ?_
 refine GoO.nil ?_
 refine GoK.code ?_
 refine GoC.condT rfl ?_
 refine GoC.seq ?_
 refine GoC.region ?_
 refine GoO.pure (ps_assign rfl rfl) ?_
 refine GoO.nil ?_
 refine GoK.code ?_
 obtain rfl := Option.some.inj H
 exact GoC.retL (ds := [.v (.bool false)]) Try.results6 (ResL.cons (ResD.tmp rfl) (ResL.nil)) (Take.nil _) ⟨rfl, rfl⟩

end Go.Proofs.Ytclaacfebgigiaa
