/- The functions short.relax, short.From, short.Heights, short.All, told as plain functions, and that the code does as they say. -/
import Derived.Test.YtlpelkfcmeapiaaTys
import Derived.Test.YtlpelkfcmeapiaaDat
import Derived.Test.YtlpelkfcmeapiaaGgraph
namespace Go.Proofs.Ytlpelkfcmeapiaa
open Go Go.Proofs.Ytlpelkfcmeapiaa.Sx
set_option linter.unusedVariables false
set_option linter.unusedSimpArgs false
def short_relax_B2 (g : Graph) : Nat → ((List Int) × (List Bool) × Bool) → Option ((List Int) × (List Bool) × Bool) := fun k22 (l13, l14, b15) =>
 ck (0 ≤ (g.as.getD k22 El.d).f ∧ (g.as.getD k22 El.d).f < ((l14.length : Nat) : Int)) <|
 if (l14.getD (((g.as.getD k22 El.d).f).toNat) false) = true then
  ck (0 ≤ (g.as.getD k22 El.d).t ∧ (g.as.getD k22 El.d).t < ((l14.length : Nat) : Int)) <|
  if (!(l14.getD (((g.as.getD k22 El.d).t).toNat) false)) = true then
   ck (0 ≤ (g.as.getD k22 El.d).f ∧ (g.as.getD k22 El.d).f < ((l13.length : Nat) : Int)) <|
   ck (InI ((l13.getD (((g.as.getD k22 El.d).f).toNat) (0 : Int)) + ((g.as.getD k22 El.d).c))) <|
   ck (0 ≤ (g.as.getD k22 El.d).t ∧ (g.as.getD k22 El.d).t < ((l13.length : Nat) : Int)) <|
   some ((l13.set (((g.as.getD k22 El.d).t).toNat) ((l13.getD (((g.as.getD k22 El.d).f).toNat) (0 : Int)) + ((g.as.getD k22 El.d).c))), (l14.set (((g.as.getD k22 El.d).t).toNat) true), false)
  else
   ck (0 ≤ (g.as.getD k22 El.d).f ∧ (g.as.getD k22 El.d).f < ((l13.length : Nat) : Int)) <|
   ck (InI ((l13.getD (((g.as.getD k22 El.d).f).toNat) (0 : Int)) + ((g.as.getD k22 El.d).c))) <|
   ck (0 ≤ (g.as.getD k22 El.d).t ∧ (g.as.getD k22 El.d).t < ((l13.length : Nat) : Int)) <|
   if ((l13.getD (((g.as.getD k22 El.d).f).toNat) (0 : Int)) + ((g.as.getD k22 El.d).c)) < (l13.getD (((g.as.getD k22 El.d).t).toNat) (0 : Int)) then
    some ((l13.set (((g.as.getD k22 El.d).t).toNat) ((l13.getD (((g.as.getD k22 El.d).f).toNat) (0 : Int)) + ((g.as.getD k22 El.d).c))), (l14.set (((g.as.getD k22 El.d).t).toNat) true), false)
   else
    some (l13, l14, b15)
 else
  some (l13, l14, b15)
def short_relax_B1 (g : Graph) : Nat → ((List Int) × (List Bool)) → Option (Ct ((List Int) × (List Bool)) (Bool × (List Int) × (List Bool))) := fun k10 (l3, l4) =>
 (forN (short_relax_B2 g) g.as.length 0 (l3, l4, true)).bind fun (l19, l20, b21) =>
 if b21 = true then
  some (.ret (true, l19, l20))
 else
  some (.go (l19, l20))
def short_relax_F (g : Graph) (far : (List Int)) (known : (List Bool)) : Option (Bool × (List Int) × (List Bool)) :=
 ck (InI (g.n + 1)) <|
 (forC (short_relax_B1 g) ((g.n + 1).toNat) 0 (far, known)).bind fun q => match q with
 | .go (l8, l9) =>
  some (false, l8, l9)
 | .ret x => some x
def short_relax_P (out : Bool × (List Int) × (List Bool)) (βfar : BK) (βknown : BK) (d : D) (H : List HL) : Prop := d = .v (.bool out.1) ∧ H = [.one βfar 3 1 (row out.2.1), .one βknown 4 1 (row out.2.2)]
theorem short_relax_I (out : Bool × (List Int) × (List Bool)) (βfar : BK) (βknown : BK) : IndepP (short_relax_P out βfar βknown) := IndepP.of (by rintro _ _ ⟨rfl, rfl⟩; exact ⟨inferInstance, inferInstance⟩)
set_option maxRecDepth 100000 in
set_option maxHeartbeats 4000000 in
theorem short_relax_spec (g : Graph) (far : (List Int)) (known : (List Bool)) (βfar : BK) (βknown : BK) {out : Bool × (List Int) × (List Bool)} (H : short_relax_F g far known = some out) : Does Try.prog 64 [.ag 2 (nth [.v (.int .i64 g.n), slD g.as]), .own βfar 1 0 far.length, .own βknown 1 0 known.length] [.one βfar 3 1 (row far), .one βknown 4 1 (row known)] (short_relax_P out βfar βknown) := by
 unfold short_relax_F at H
 refine Does.intro Try.func64 rfl Try.ntmps64 rfl fun w0 I0 => ?_
 refine GoC.seq ?_
 refine GoC.region ?_
 refine GoO.effB (ef_boxAg rfl rfl) (fun β1 => ?_)
 refine GoO.pure (ps_assign rfl rfl) ?_
 refine GoO.nil ?_
 refine GoK.code ?_
 refine GoC.seq ?_
 refine GoC.seq ?_
 refine GoC.region ?_
 refine GoO.pure (ps_fieldAddr rfl rfl) ?_
 refine GoO.pure (ps_load rfl At.p0 At.p0 Nat.zero_lt_one rfl rfl) ?_
 have c2 := ck_l H; replace H := ck_r H
 refine GoO.pure (ps_add rfl rfl rfl c2) ?_
 refine GoO.pure (ps_move rfl rfl) ?_
 refine GoO.nil ?_
 refine GoK.code ?_
 have hb := bind_l H; clear H
 obtain ⟨q7, hl38, HK5⟩ := hb
 refine GoC.blockJ [] [.one β1 25 2 (st1 (nth [.v (.int .i64 g.n), slD g.as]))] (fun v h => ∃ (l8 : (List Int)) (l9 : (List Bool)), q7 = .go (l8, l9) ∧ v = [] ∧ h = [.one βfar 3 1 (row l8), .one βknown 4 1 (row l9)]) ?_ ?_
 refine GoC.loopJ [(3, _), (12, _)] [.one β1 25 2 (st1 (nth [.v (.int .i64 g.n), slD g.as]))] (fun mQ v h => ∃ (k10 : Nat) (l3 : (List Int)) (l4 : (List Bool)), (k10 + mQ = (g.n + 1).toNat ∧ forC (short_relax_B1 g) mQ k10 (l3, l4) = some q7) ∧ v = [(13, .v (.int .i64 ((k10 : Nat) : Int))), (1, .own βfar 1 0 l3.length), (2, .own βknown 1 0 l4.length)] ∧ h = [.one βfar 3 1 (row l3), .one βknown 4 1 (row l4)]) ((g.n + 1).toNat) ⟨_, _, _, ⟨by omega, hl38⟩, rfl, rfl⟩ (EnvD.eq rfl (EnvD.cons rfl (DLe.len (by first | rfl | omega | (simp only [row_len, gridC_len, rowO_len] <;> first | rfl | omega))) (EnvD.cons rfl (DLe.len (by first | rfl | omega | (simp only [row_len, gridC_len, rowO_len] <;> first | rfl | omega))) (EnvD.eq rfl (EnvD.eq rfl (EnvD.nil)))))) (TkD.cons _ _ _ _ _ Rem.p1 (HLe.refl _) (TkD.cons _ _ _ _ _ Rem.p1 (HLe.refl _) (TkD.cons _ _ _ _ _ Rem.p0 (HLe.st ⟨⟨trivial, DLe.refl _⟩, DLe.refl _⟩) (TkD.nil _)))) ?_
 rintro m11 v h ⟨k10, l3, l4, ⟨hkk10, hF6⟩, rfl, rfl⟩
 refine GoC.seq ?_
 refine GoC.region ?_
 refine GoO.pure (ps_lss rfl rfl rfl) ?_
 refine GoO.nil ?_
 refine GoK.code ?_
 refine GoC.seq ?_
 refine GoC.condD rfl (fun (hk10 : (k10 : Int) < (g.n + 1)) => ?_) (fun (hk10 : ¬ (k10 : Int) < (g.n + 1)) => ?_)
 obtain ⟨m11', rfl⟩ : ∃ x, m11 = x + 1 := ⟨m11 - 1, by omega⟩
 have hb := bind_l hF6; clear hF6
 obtain ⟨qrm11, H, hF6⟩ := hb
 have hnk10 : k10 < (g.n + 1).toNat := by omega
 have hIk10 : InI ((k10 : Int) + 1) := inI_cnt hk10 c2
 refine GoC.skip ?_
 refine GoK.code ?_
 refine GoC.seq ?_
 refine GoC.block ?_
 refine GoC.seq ?_
 refine GoC.region ?_
 refine GoO.pure (ps_assign rfl rfl) ?_
 refine GoO.nil ?_
 refine GoK.code ?_
 refine GoC.seq ?_
 refine GoC.seq ?_
 refine GoC.region ?_
 refine GoO.pure (ps_fieldAddr rfl rfl) ?_
 refine GoO.pure (ps_load rfl At.p2 At.p2 Nat.zero_lt_one rfl rfl) ?_
 refine GoO.pure (ps_len rfl (by constructor) rfl) ?_
 refine GoO.lenLe (n := g.as.length) (x := .tmp 16) rfl (by constructor) sl_lenLe (fun ml12 => ?_)
 refine GoO.pure (ps_move rfl rfl) ?_
 refine GoO.nil ?_
 refine GoK.code ?_
 have hb := bind_l H; clear H
 obtain ⟨⟨l19, l20, b21⟩, hl36, HK16⟩ := hb
 refine GoC.blockJ [(3, .ptr β1 2 0 0), (12, .v (.int .i64 (g.n + 1))), (13, .v (.int .i64 ((k10 : Nat) : Int)))] [.one β1 25 2 (st1 (nth [.v (.int .i64 g.n), slD g.as]))] (fun v h => v = [(1, .own βfar 1 0 l19.length), (2, .own βknown 1 0 l20.length), (7, .v (.bool b21))] ∧ h = [.one βfar 3 1 (row l19), .one βknown 4 1 (row l20)]) ?_ ?_
 refine GoC.loopJ [(3, _), (12, _), (13, _), (16, _), (17, _)] [.one β1 25 2 (st1 (nth [.v (.int .i64 g.n), slD g.as]))] (fun mQ v h => ∃ (k22 : Nat) (l13 : (List Int)) (l14 : (List Bool)) (b15 : Bool), (k22 + mQ = g.as.length ∧ forN (short_relax_B2 g) mQ k22 (l13, l14, b15) = some (l19, l20, b21)) ∧ v = [(18, .v (.int .i64 ((k22 : Nat) : Int))), (1, .own βfar 1 0 l13.length), (2, .own βknown 1 0 l14.length), (7, .v (.bool b15))] ∧ h = [.one βfar 3 1 (row l13), .one βknown 4 1 (row l14)]) g.as.length ⟨_, _, _, _, ⟨by omega, hl36⟩, rfl, rfl⟩ (EnvD.eq rfl (EnvD.cons rfl (DLe.len (by first | rfl | omega | (simp only [row_len, gridC_len, rowO_len] <;> first | rfl | omega))) (EnvD.cons rfl (DLe.len (by first | rfl | omega | (simp only [row_len, gridC_len, rowO_len] <;> first | rfl | omega))) (EnvD.eq rfl (EnvD.eq rfl (EnvD.eq rfl (EnvD.eq rfl (EnvD.eq rfl (EnvD.eq rfl (EnvD.nil)))))))))) (TkD.cons _ _ _ _ _ Rem.p0 (HLe.refl _) (TkD.cons _ _ _ _ _ Rem.p0 (HLe.refl _) (TkD.cons _ _ _ _ _ Rem.p0 (HLe.st ⟨⟨trivial, DLe.refl _⟩, DLe.refl _⟩) (TkD.nil _)))) ?_
 rintro m23 v h ⟨k22, l13, l14, b15, ⟨hkk22, hF17⟩, rfl, rfl⟩
 refine GoC.seq ?_
 refine GoC.region ?_
 refine GoO.pure (ps_lss rfl rfl rfl) ?_
 refine GoO.nil ?_
 refine GoK.code ?_
 refine GoC.seq ?_
 refine GoC.condD rfl (fun (hk22 : (k22 : Int) < ((g.as.length : Nat) : Int)) => ?_) (fun (hk22 : ¬ (k22 : Int) < ((g.as.length : Nat) : Int)) => ?_)
 obtain ⟨m23', rfl⟩ : ∃ x, m23 = x + 1 := ⟨m23 - 1, by omega⟩
 have hb := bind_l hF17; clear hF17
 obtain ⟨qrm23, H, hF17⟩ := hb
 have hnk22 : k22 < g.as.length := by omega
 have hIk22 : InI ((k22 : Int) + 1) := inI_len hk22 ml12
 refine GoC.skip ?_
 refine GoK.code ?_
 refine GoC.seq ?_
 refine GoC.block ?_
 refine GoC.seq ?_
 refine GoC.region ?_
 refine GoO.pure (ps_indexAddrRN rfl rfl hnk22 rfl) ?_
 refine GoO.pure (ps_loadAgR rfl hnk22 rfl rfl) ?_
 refine GoO.effB (ef_alloc rfl) (fun β24 => ?_)
 refine GoO.eff1 (ef_storeAg rfl rfl At.p0 upd_whole Nat.zero_lt_one rfl) ?_
 refine GoO.nil ?_
 refine GoK.code ?_
 refine GoC.seq ?_
 refine GoC.drawA (.q 0 (.q 1 (.q 2 (.q 3 (.q 4 (.q 5 (.q 6 (.q 7 (.q 8 (.q 9 (.q 10 (.q 11 (.q 12 (.q 13 (.q 14 (.q 15 (.q 16 (.q 17 (.q 18 (.q 19 (.q 20 (.q 21 (.q 22 (.q 23 (.q 24 (.q 25 (.q 26 (.q 27 (.q 28 (.done)))))))))))))))))))))))))))))) follows (by kernel_rfl) ?_
 refine GoP.qN rfl (ps_move rfl rfl) ?_
 refine GoP.qN rfl (ps_fieldAddr rfl rfl) ?_
 refine GoP.qN rfl (ps_load rfl At.p0 At.p0 Nat.zero_lt_one rfl rfl) ?_
 have c25 := ck_l H; replace H := ck_r H
 refine GoP.qN rfl (ps_indexAddr0 rfl rfl c25 rfl) ?_
 refine GoP.qN rfl (ps_load rfl At.p2 At.p2 (idx_lt c25) rfl rfl) ?_
 refine GoP.qN rfl (ps_move rfl rfl) ?_
 refine GoP.decide 27 rfl (fun h26 => ?_) (fun h26 => ?_)
 replace H := itb_t h26 H
 refine GoP.qT rfl rfl rfl rfl (ps_move rfl rfl) ?_
 refine GoP.qT rfl rfl rfl rfl (ps_fieldAddr rfl rfl) ?_
 refine GoP.qT rfl rfl rfl rfl (ps_load rfl At.p0 At.p0 Nat.zero_lt_one rfl rfl) ?_
 have c27 := ck_l H; replace H := ck_r H
 refine GoP.qT rfl rfl rfl rfl (ps_indexAddr0 rfl rfl c27 rfl) ?_
 refine GoP.qT rfl rfl rfl rfl (ps_load rfl At.p2 At.p2 (idx_lt c27) rfl rfl) ?_
 refine GoP.qT rfl rfl rfl rfl (ps_not rfl rfl) ?_
 refine GoP.qT rfl rfl rfl rfl (ps_move rfl rfl) ?_
 refine GoP.decide 34 rfl (fun h28 => ?_) (fun h28 => ?_)
 replace H := itb_t h28 H
 refine GoP.qF rfl rfl rfl rfl rfl ?_
 refine GoP.qF rfl rfl rfl rfl rfl ?_
 refine GoP.qF rfl rfl rfl rfl rfl ?_
 refine GoP.qF rfl rfl rfl rfl rfl ?_
 refine GoP.qF rfl rfl rfl rfl rfl ?_
 refine GoP.qF rfl rfl rfl rfl rfl ?_
 refine GoP.qF rfl rfl rfl rfl rfl ?_
 refine GoP.qF rfl rfl rfl rfl rfl ?_
 refine GoP.qF rfl rfl rfl rfl rfl ?_
 refine GoP.qF rfl rfl rfl rfl rfl ?_
 refine GoP.qF rfl rfl rfl rfl rfl ?_
 refine GoP.qF rfl rfl rfl rfl rfl ?_
 refine GoP.qF rfl rfl rfl rfl rfl ?_
 refine GoP.qF rfl rfl rfl rfl rfl ?_
 refine GoP.qT rfl rfl rfl rfl (ps_pickT rfl rfl rfl) ?_
 refine GoP.qN rfl (ps_pickT rfl rfl rfl) ?_
 refine GoP.done ?_
 refine GoK.code ?_
 refine GoC.condT rfl ?_
 refine GoC.drawP (.q 0 (.q 1 (.q 2 (.q 3 (.q 4 (.q 5 (.q 6 (.q 7 (.q 8 (.q 9 (.q 11 (.q 12 (.one 10 (.q 13 (.q 14 (.one 15 (.q 16 (.one 17 (.q 18 (.done)))))))))))))))))))) [(9, _, _, _)] follows (by kernel_rfl) (Take.cons _ _ _ _ _ Rem.p0 (Take.nil _)) ?_
 refine GoP.qN rfl (ps_move rfl rfl) ?_
 refine GoP.qN rfl (ps_fieldAddr rfl rfl) ?_
 refine GoP.qN rfl (ps_load rfl At.p0 At.p0 Nat.zero_lt_one rfl rfl) ?_
 refine GoP.qN rfl (ps_move rfl rfl) ?_
 refine GoP.qN rfl (ps_fieldAddr rfl rfl) ?_
 refine GoP.qN rfl (ps_load rfl At.p0 At.p0 Nat.zero_lt_one rfl rfl) ?_
 refine GoP.qN rfl (ps_move rfl rfl) ?_
 refine GoP.qN rfl (ps_fieldAddr rfl rfl) ?_
 refine GoP.qN rfl (ps_load rfl At.p0 At.p0 Nat.zero_lt_one rfl rfl) ?_
 have c29 := ck_l H; replace H := ck_r H
 refine GoP.qN rfl (ps_indexAddr0 rfl rfl c29 rfl) ?_
 refine GoP.qN rfl (ps_fieldAddr rfl rfl) ?_
 refine GoP.qN rfl (ps_load rfl At.p0 At.p0 Nat.zero_lt_one rfl rfl) ?_
 refine GoP.oneN rfl (ps_load rfl At.p1 At.p1 (idx_lt c29) rfl rfl) (Take.cons _ _ _ _ _ Rem.p0 (Take.nil _)) ?_
 have c30 := ck_l H; replace H := ck_r H
 refine GoP.qN rfl (ps_add rfl rfl rfl c30) ?_
 have c31 := ck_l H; replace H := ck_r H
 refine GoP.qN rfl (ps_indexAddr0 rfl rfl c31 rfl) ?_
 refine GoP.one1 rfl trivial (ef_store rfl rfl rfl At.p1 (upd_row1 (v := ((l13.getD (((g.as.getD k22 El.d).f).toNat) (0 : Int)) + ((g.as.getD k22 El.d).c))) rfl) (idx_lt c31) rfl) (Take.cons _ _ _ _ _ Rem.p1 (Take.cons _ _ _ _ _ Rem.p0 (Take.nil _))) ?_
 refine GoP.qN rfl (ps_indexAddr0 rfl rfl c27 rfl) ?_
 refine GoP.one1 rfl trivial (ef_store rfl rfl rfl At.p2 (upd_row1 (v := true) rfl) (idx_lt c27) rfl) (Take.cons _ _ _ _ _ Rem.p2 (Take.cons _ _ _ _ _ Rem.p0 (Take.nil _))) ?_
 refine GoP.qN rfl (ps_assign rfl rfl) ?_
 refine GoP.done ?_
 refine GoK.blk ?_
 refine GoK.code ?_
 refine GoC.region ?_
 refine GoO.pure (ps_add rfl rfl rfl hIk22) ?_
 refine GoO.pure (ps_move rfl rfl) ?_
 refine GoO.nil ?_
 obtain rfl := Option.some.inj H
 exact GoK.againJ m23' (by omega) ⟨_, _, _, _, ⟨by omega, hF17⟩, rfl, rfl⟩ (EnvD.eq rfl (EnvD.cons rfl (DLe.len (by first | rfl | omega | (simp only [row_len, gridC_len, rowO_len, List.length_set] <;> first | rfl | omega))) (EnvD.cons rfl (DLe.len (by first | rfl | omega | (simp only [row_len, gridC_len, rowO_len, List.length_set] <;> first | rfl | omega))) (EnvD.eq rfl (EnvD.eq rfl (EnvD.eq rfl (EnvD.eq rfl (EnvD.eq rfl (EnvD.eq rfl (EnvD.nil)))))))))) (TkD.cons _ _ _ _ _ Rem.p1 (HLe.refl _) (TkD.cons _ _ _ _ _ Rem.p1 (HLe.refl _) (TkD.cons _ _ _ _ _ Rem.p1 (HLe.st ⟨⟨trivial, DLe.refl _⟩, DLe.refl _⟩) (TkD.nil _))))
 replace H := itb_f h28 H
 refine GoP.qT rfl rfl rfl rfl (ps_move rfl rfl) ?_
 refine GoP.qT rfl rfl rfl rfl (ps_fieldAddr rfl rfl) ?_
 refine GoP.qT rfl rfl rfl rfl (ps_load rfl At.p0 At.p0 Nat.zero_lt_one rfl rfl) ?_
 have c32 := ck_l H; replace H := ck_r H
 refine GoP.qT rfl rfl rfl rfl (ps_indexAddr0 rfl rfl c32 rfl) ?_
 refine GoP.qT rfl rfl rfl rfl (ps_load rfl At.p1 At.p1 (idx_lt c32) rfl rfl) ?_
 refine GoP.qT rfl rfl rfl rfl (ps_fieldAddr rfl rfl) ?_
 refine GoP.qT rfl rfl rfl rfl (ps_load rfl At.p0 At.p0 Nat.zero_lt_one rfl rfl) ?_
 have c33 := ck_l H; replace H := ck_r H
 refine GoP.qT rfl rfl rfl rfl (ps_add rfl rfl rfl c33) ?_
 refine GoP.qT rfl rfl rfl rfl (ps_move rfl rfl) ?_
 refine GoP.qT rfl rfl rfl rfl (ps_fieldAddr rfl rfl) ?_
 refine GoP.qT rfl rfl rfl rfl (ps_load rfl At.p0 At.p0 Nat.zero_lt_one rfl rfl) ?_
 have c34 := ck_l H; replace H := ck_r H
 refine GoP.qT rfl rfl rfl rfl (ps_indexAddr0 rfl rfl c34 rfl) ?_
 refine GoP.qT rfl rfl rfl rfl (ps_load rfl At.p1 At.p1 (idx_lt c34) rfl rfl) ?_
 refine GoP.qT rfl rfl rfl rfl (ps_lss rfl rfl rfl) ?_
 refine GoP.qT rfl rfl rfl rfl (ps_pickF rfl rfl rfl) ?_
 refine GoP.qN rfl (ps_pickT rfl rfl rfl) ?_
 refine GoP.done ?_
 refine GoK.code ?_
 refine GoC.condD rfl (fun h35 => ?_) (fun h35 => ?_)
 replace H := ite_t h35 H
 refine GoC.drawP (.q 0 (.q 1 (.q 2 (.q 3 (.q 4 (.q 5 (.q 6 (.q 7 (.q 8 (.q 9 (.q 11 (.q 12 (.one 10 (.q 13 (.q 14 (.one 15 (.q 16 (.one 17 (.q 18 (.done)))))))))))))))))))) [(9, _, _, _)] follows (by kernel_rfl) (Take.cons _ _ _ _ _ Rem.p0 (Take.nil _)) ?_
 refine GoP.qN rfl (ps_move rfl rfl) ?_
 refine GoP.qN rfl (ps_fieldAddr rfl rfl) ?_
 refine GoP.qN rfl (ps_load rfl At.p0 At.p0 Nat.zero_lt_one rfl rfl) ?_
 refine GoP.qN rfl (ps_move rfl rfl) ?_
 refine GoP.qN rfl (ps_fieldAddr rfl rfl) ?_
 refine GoP.qN rfl (ps_load rfl At.p0 At.p0 Nat.zero_lt_one rfl rfl) ?_
 refine GoP.qN rfl (ps_move rfl rfl) ?_
 refine GoP.qN rfl (ps_fieldAddr rfl rfl) ?_
 refine GoP.qN rfl (ps_load rfl At.p0 At.p0 Nat.zero_lt_one rfl rfl) ?_
 refine GoP.qN rfl (ps_indexAddr0 rfl rfl c32 rfl) ?_
 refine GoP.qN rfl (ps_fieldAddr rfl rfl) ?_
 refine GoP.qN rfl (ps_load rfl At.p0 At.p0 Nat.zero_lt_one rfl rfl) ?_
 refine GoP.oneN rfl (ps_load rfl At.p1 At.p1 (idx_lt c32) rfl rfl) (Take.cons _ _ _ _ _ Rem.p0 (Take.nil _)) ?_
 refine GoP.qN rfl (ps_add rfl rfl rfl c33) ?_
 refine GoP.qN rfl (ps_indexAddr0 rfl rfl c34 rfl) ?_
 refine GoP.one1 rfl trivial (ef_store rfl rfl rfl At.p1 (upd_row1 (v := ((l13.getD (((g.as.getD k22 El.d).f).toNat) (0 : Int)) + ((g.as.getD k22 El.d).c))) rfl) (idx_lt c34) rfl) (Take.cons _ _ _ _ _ Rem.p1 (Take.cons _ _ _ _ _ Rem.p0 (Take.nil _))) ?_
 refine GoP.qN rfl (ps_indexAddr0 rfl rfl c27 rfl) ?_
 refine GoP.one1 rfl trivial (ef_store rfl rfl rfl At.p2 (upd_row1 (v := true) rfl) (idx_lt c27) rfl) (Take.cons _ _ _ _ _ Rem.p2 (Take.cons _ _ _ _ _ Rem.p0 (Take.nil _))) ?_
 refine GoP.qN rfl (ps_assign rfl rfl) ?_
 refine GoP.done ?_
 refine GoK.blk ?_
 refine GoK.code ?_
 refine GoC.region ?_
 refine GoO.pure (ps_add rfl rfl rfl hIk22) ?_
 refine GoO.pure (ps_move rfl rfl) ?_
 refine GoO.nil ?_
 obtain rfl := Option.some.inj H
 exact GoK.againJ m23' (by omega) ⟨_, _, _, _, ⟨by omega, hF17⟩, rfl, rfl⟩ (EnvD.eq rfl (EnvD.cons rfl (DLe.len (by first | rfl | omega | (simp only [row_len, gridC_len, rowO_len, List.length_set] <;> first | rfl | omega))) (EnvD.cons rfl (DLe.len (by first | rfl | omega | (simp only [row_len, gridC_len, rowO_len, List.length_set] <;> first | rfl | omega))) (EnvD.eq rfl (EnvD.eq rfl (EnvD.eq rfl (EnvD.eq rfl (EnvD.eq rfl (EnvD.eq rfl (EnvD.nil)))))))))) (TkD.cons _ _ _ _ _ Rem.p1 (HLe.refl _) (TkD.cons _ _ _ _ _ Rem.p1 (HLe.refl _) (TkD.cons _ _ _ _ _ Rem.p1 (HLe.st ⟨⟨trivial, DLe.refl _⟩, DLe.refl _⟩) (TkD.nil _))))
 replace H := ite_f h35 H
 refine GoC.skip ?_
 refine GoK.blk ?_
 refine GoK.code ?_
 refine GoC.region ?_
 refine GoO.pure (ps_add rfl rfl rfl hIk22) ?_
 refine GoO.pure (ps_move rfl rfl) ?_
 refine GoO.nil ?_
 obtain rfl := Option.some.inj H
 exact GoK.againJ m23' (by omega) ⟨_, _, _, _, ⟨by omega, hF17⟩, rfl, rfl⟩ (EnvD.eq rfl (EnvD.eq rfl (EnvD.eq rfl (EnvD.eq rfl (EnvD.eq rfl (EnvD.eq rfl (EnvD.eq rfl (EnvD.eq rfl (EnvD.eq rfl (EnvD.nil)))))))))) (TkD.cons _ _ _ _ _ Rem.p1 (HLe.refl _) (TkD.cons _ _ _ _ _ Rem.p1 (HLe.refl _) (TkD.cons _ _ _ _ _ Rem.p1 (HLe.st ⟨⟨trivial, DLe.refl _⟩, DLe.refl _⟩) (TkD.nil _))))
 replace H := itb_f h26 H
 refine GoP.qF rfl rfl rfl rfl rfl ?_
 refine GoP.qF rfl rfl rfl rfl rfl ?_
 refine GoP.qF rfl rfl rfl rfl rfl ?_
 refine GoP.qF rfl rfl rfl rfl rfl ?_
 refine GoP.qF rfl rfl rfl rfl rfl ?_
 refine GoP.qF rfl rfl rfl rfl rfl ?_
 refine GoP.qF rfl rfl rfl rfl rfl ?_
 refine GoP.qU rfl rfl rfl rfl rfl ?_
 refine GoP.qU rfl rfl rfl rfl rfl ?_
 refine GoP.qU rfl rfl rfl rfl rfl ?_
 refine GoP.qU rfl rfl rfl rfl rfl ?_
 refine GoP.qU rfl rfl rfl rfl rfl ?_
 refine GoP.qU rfl rfl rfl rfl rfl ?_
 refine GoP.qU rfl rfl rfl rfl rfl ?_
 refine GoP.qU rfl rfl rfl rfl rfl ?_
 refine GoP.qU rfl rfl rfl rfl rfl ?_
 refine GoP.qU rfl rfl rfl rfl rfl ?_
 refine GoP.qU rfl rfl rfl rfl rfl ?_
 refine GoP.qU rfl rfl rfl rfl rfl ?_
 refine GoP.qU rfl rfl rfl rfl rfl ?_
 refine GoP.qU rfl rfl rfl rfl rfl ?_
 refine GoP.qF rfl rfl rfl rfl rfl ?_
 refine GoP.qN rfl (ps_pickF rfl rfl rfl) ?_
 refine GoP.done ?_
 refine GoK.code ?_
 refine GoC.condF rfl ?_
 refine GoC.skip ?_
 refine GoK.blk ?_
 refine GoK.code ?_
 refine GoC.region ?_
 refine GoO.pure (ps_add rfl rfl rfl hIk22) ?_
 refine GoO.pure (ps_move rfl rfl) ?_
 refine GoO.nil ?_
 obtain rfl := Option.some.inj H
 exact GoK.againJ m23' (by omega) ⟨_, _, _, _, ⟨by omega, hF17⟩, rfl, rfl⟩ (EnvD.eq rfl (EnvD.eq rfl (EnvD.eq rfl (EnvD.eq rfl (EnvD.eq rfl (EnvD.eq rfl (EnvD.eq rfl (EnvD.eq rfl (EnvD.eq rfl (EnvD.nil)))))))))) (TkD.cons _ _ _ _ _ Rem.p1 (HLe.refl _) (TkD.cons _ _ _ _ _ Rem.p1 (HLe.refl _) (TkD.cons _ _ _ _ _ Rem.p1 (HLe.st ⟨⟨trivial, DLe.refl _⟩, DLe.refl _⟩) (TkD.nil _))))
 obtain rfl : m23 = 0 := by omega
 refine GoC.exit rfl ?_
 cases hF17
 exact GoK.meet ⟨rfl, rfl⟩ (EnvD.cons rfl (DLe.len (by first | rfl | omega | (simp only [row_len, gridC_len, rowO_len] <;> first | rfl | omega))) (EnvD.cons rfl (DLe.len (by first | rfl | omega | (simp only [row_len, gridC_len, rowO_len] <;> first | rfl | omega))) (EnvD.eq rfl (EnvD.eq rfl (EnvD.eq rfl (EnvD.eq rfl (EnvD.nil))))))) (TkD.cons _ _ _ _ _ Rem.p0 (HLe.refl _) (TkD.cons _ _ _ _ _ Rem.p0 (HLe.refl _) (TkD.cons _ _ _ _ _ Rem.p0 (HLe.st ⟨⟨trivial, DLe.refl _⟩, DLe.refl _⟩) (TkD.nil _))))
 rintro v h ⟨rfl, rfl⟩
 have H := HK16; clear HK16
 refine GoK.code ?_
 refine GoC.seq ?_
 refine GoC.region ?_
 refine GoO.pure (ps_move rfl rfl) ?_
 refine GoO.nil ?_
 refine GoK.code ?_
 refine GoC.cond rfl (fun h37 => ?_) (fun h37 => ?_)
 replace H := itb_t h37 H
 refine GoC.seq ?_
 refine GoC.region ?_
 refine GoO.pure (ps_assign rfl rfl) ?_
 refine GoO.nil ?_
 refine GoK.code ?_
 obtain rfl := Option.some.inj H
 obtain rfl := Option.some.inj hF6
 obtain rfl := Option.some.inj HK5
 exact GoC.retL (ds := [.v (.bool true)]) Try.results64 (ResL.cons (ResD.tmp rfl) (ResL.nil)) (Take.cons _ _ _ _ _ Rem.p0 (Take.cons _ _ _ _ _ Rem.p0 (Take.nil _))) ⟨rfl, rfl⟩
 replace H := itb_f h37 H
 refine GoC.skip ?_
 refine GoK.blk ?_
 refine GoK.code ?_
 refine GoC.region ?_
 refine GoO.pure (ps_add rfl rfl rfl hIk10) ?_
 refine GoO.pure (ps_move rfl rfl) ?_
 refine GoO.nil ?_
 obtain rfl := Option.some.inj H
 exact GoK.againJ m11' (by omega) ⟨_, _, _, ⟨by omega, hF6⟩, rfl, rfl⟩ (EnvD.eq rfl (EnvD.cons rfl (DLe.len (by first | rfl | omega | (simp only [row_len, gridC_len, rowO_len] <;> first | rfl | omega))) (EnvD.cons rfl (DLe.len (by first | rfl | omega | (simp only [row_len, gridC_len, rowO_len] <;> first | rfl | omega))) (EnvD.eq rfl (EnvD.eq rfl (EnvD.nil)))))) (TkD.cons _ _ _ _ _ Rem.p0 (HLe.refl _) (TkD.cons _ _ _ _ _ Rem.p0 (HLe.refl _) (TkD.cons _ _ _ _ _ Rem.p0 (HLe.st ⟨⟨trivial, DLe.refl _⟩, DLe.refl _⟩) (TkD.nil _))))
 obtain rfl : m11 = 0 := by omega
 refine GoC.exit rfl ?_
 cases hF6
 exact GoK.meet ⟨_, _, rfl, rfl, rfl⟩ (EnvD.nil) (TkD.cons _ _ _ _ _ Rem.p0 (HLe.refl _) (TkD.cons _ _ _ _ _ Rem.p0 (HLe.refl _) (TkD.cons _ _ _ _ _ Rem.p0 (HLe.st ⟨⟨trivial, DLe.refl _⟩, DLe.refl _⟩) (TkD.nil _))))
 rintro v h ⟨l8, l9, rfl, rfl, rfl⟩
 have H := HK5; clear HK5
 refine GoK.code ?_
 refine GoC.seq ?_
 refine GoC.region ?_
 refine GoO.pure (ps_assign rfl rfl) ?_
 refine GoO.nil ?_
 refine GoK.code ?_
 obtain rfl := Option.some.inj H
 exact GoC.retL (ds := [.v (.bool false)]) Try.results64 (ResL.cons (ResD.tmp rfl) (ResL.nil)) (Take.cons _ _ _ _ _ Rem.p0 (Take.cons _ _ _ _ _ Rem.p0 (Take.nil _))) ⟨rfl, rfl⟩

def short_From_F (g : Graph) (s : Int) : Option ((List Int) × (List Bool) × Int) :=
 (graph_CheckLong_F g).bind fun r2 =>
 if r2 ≠ 0 then
  some ([], [], r2)
 else
  if s < 0 then
   some ([], [], 4)
  else
   if g.n ≤ s then
    some ([], [], 4)
   else
    ck (0 ≤ g.n ∧ g.n ≤ 10000000000) <|
    ck (0 ≤ s ∧ s < ((g.n.toNat : Nat) : Int)) <|
    (short_relax_F g (List.replicate g.n.toNat (0 : Int)) ((List.replicate g.n.toNat false).set s.toNat true)).bind fun (r15, l16, l17) =>
    ck (l16.length = g.n.toNat) <|
    ck (l17.length = g.n.toNat) <|
    if (!r15) = true then
     some ([], [], 6)
    else
     some (l16, l17, 0)
def short_From_P (out : (List Int) × (List Bool) × Int) (d : D) (H : List HL) : Prop := ∃ β1 β2 : BK, d = .tp 3 (nth [.own β1 1 0 out.1.length, .own β2 1 0 out.2.1.length, .v (.int .i64 out.2.2)]) ∧ H = [.one β1 3 1 (row out.1), .one β2 4 1 (row out.2.1)]
theorem short_From_I (out : (List Int) × (List Bool) × Int) : IndepP (short_From_P out) := IndepP.of (by rintro _ _ ⟨β1, β2, rfl, rfl⟩; exact ⟨inferInstance, inferInstance⟩)
set_option maxRecDepth 100000 in
set_option maxHeartbeats 4000000 in
theorem short_From_spec (g : Graph) (s : Int) {out : (List Int) × (List Bool) × Int} (H : short_From_F g s = some out) : Does Try.prog 33 [.ag 2 (nth [.v (.int .i64 g.n), slD g.as]), .v (.int .i64 s)] [] (short_From_P out) := by
 unfold short_From_F at H
 refine Does.intro Try.func33 rfl Try.ntmps33 rfl fun w0 I0 => ?_
 refine GoC.seq ?_
 refine GoC.region ?_
 refine GoO.effB (ef_boxAg rfl rfl) (fun β1 => ?_)
 refine GoO.pure (ps_assign rfl rfl) ?_
 refine GoO.pure (ps_assign rfl rfl) ?_
 refine GoO.pure (ps_assign rfl rfl) ?_
 refine GoO.nil ?_
 refine GoK.code ?_
 refine GoC.seq ?_
 refine GoC.seq ?_
 refine GoC.region ?_
 refine GoO.pure (ps_loadAg rfl At.p0 At.p0 Nat.zero_lt_one rfl rfl) ?_
 have hb := bind_l H; clear H
 obtain ⟨r2, e3, H⟩ := hb
 refine GoO.effC (ef_call rfl (Take.nil _) (Take.nil _) (graph_CheckLong_spec g e3) (LendL.cons (Lend.agA ⟨⟨trivial, Lend.refl _ _⟩, Lend.refl _ _⟩) (LendL.nil)) rfl (graph_CheckLong_I (r2))) (fun rr HH hp => ?_)
 obtain ⟨rfl, rfl⟩ := hp
 refine GoO.pure (ps_assign rfl rfl) ?_
 refine GoO.nil ?_
 refine GoK.code ?_
 refine GoC.seq ?_
 refine GoC.region ?_
 refine GoO.pure (ps_move rfl rfl) ?_
 refine GoO.pure (ps_neq rfl rfl rfl) ?_
 refine GoO.nil ?_
 refine GoK.code ?_
 refine GoC.condD rfl (fun h4 => ?_) (fun h4 => ?_)
 replace H := ite_t h4 H
 refine GoC.seq ?_
 refine GoC.region ?_
 refine GoO.pure (ps_move rfl rfl) ?_
 refine GoO.pure (ps_assign rfl rfl) ?_
 refine GoO.pure (ps_assign rfl rfl) ?_
 refine GoO.pure (ps_assign rfl rfl) ?_
 refine GoO.nil ?_
 refine GoK.code ?_
 obtain rfl := Option.some.inj H
 refine GoC.le (le_row0 3 1 (row ([] : List Int)) rfl) ?_
 refine GoC.le (le_row0 4 1 (row ([] : List Bool)) rfl) ?_
 exact GoC.retL (ds := [.own ⟨0, 0, 0⟩ 1 0 0, .own ⟨0, 0, 0⟩ 1 0 0, .v (.int .i64 r2)]) Try.results33 (ResL.cons (ResD.le (ResD.tmp rfl) (by exact DLe.nilOwn)) (ResL.cons (ResD.le (ResD.tmp rfl) (by exact DLe.nilOwn)) (ResL.cons (ResD.tmp rfl) (ResL.nil)))) (Take.cons _ _ _ _ _ Rem.p1 (Take.cons _ _ _ _ _ Rem.p0 (Take.nil _))) ⟨⟨0, 0, 0⟩, ⟨0, 0, 0⟩, rfl, rfl⟩
 replace H := ite_f h4 H
 refine GoC.skip ?_
 refine GoK.code ?_
 refine GoC.seq ?_
 refine GoC.seq ?_
 refine GoC.region ?_
 refine GoO.pure (ps_move rfl rfl) ?_
 refine GoO.pure (ps_lss rfl rfl rfl) ?_
 refine GoO.pure (ps_move rfl rfl) ?_
 refine GoO.guardE rfl rfl rfl rfl (fun h5 => ?_) (fun h5 => ?_)
 replace H := ite_f h5 H
 refine GoO.pure (ps_move rfl rfl) ?_
 refine GoO.guardT rfl rfl rfl ?_
 refine GoO.pure (ps_fieldAddr rfl rfl) ?_
 refine GoO.guardT rfl rfl rfl ?_
 refine GoO.pure (ps_load rfl At.p0 At.p0 Nat.zero_lt_one rfl rfl) ?_
 refine GoO.guardT rfl rfl rfl ?_
 refine GoO.pure (ps_geq rfl rfl rfl) ?_
 refine GoO.pure (ps_pickF rfl rfl rfl) ?_
 refine GoO.nil ?_
 refine GoK.code ?_
 refine GoC.condD rfl (fun h6 => ?_) (fun h6 => ?_)
 replace H := ite_t h6 H
 refine GoC.seq ?_
 refine GoC.region ?_
 refine GoO.pure (ps_assign rfl rfl) ?_
 refine GoO.pure (ps_assign rfl rfl) ?_
 refine GoO.pure (ps_assign rfl rfl) ?_
 refine GoO.nil ?_
 refine GoK.code ?_
 obtain rfl := Option.some.inj H
 refine GoC.le (le_row0 3 1 (row ([] : List Int)) rfl) ?_
 refine GoC.le (le_row0 4 1 (row ([] : List Bool)) rfl) ?_
 exact GoC.retL (ds := [.own ⟨0, 0, 0⟩ 1 0 0, .own ⟨0, 0, 0⟩ 1 0 0, .v (.int .i64 4)]) Try.results33 (ResL.cons (ResD.le (ResD.tmp rfl) (by exact DLe.nilOwn)) (ResL.cons (ResD.le (ResD.tmp rfl) (by exact DLe.nilOwn)) (ResL.cons (ResD.tmp rfl) (ResL.nil)))) (Take.cons _ _ _ _ _ Rem.p1 (Take.cons _ _ _ _ _ Rem.p0 (Take.nil _))) ⟨⟨0, 0, 0⟩, ⟨0, 0, 0⟩, rfl, rfl⟩
 replace H := ite_f h6 H
 refine GoC.skip ?_
 refine GoK.code ?_
 refine GoC.seq ?_
 refine GoC.drawA (.q 0 (.q 1 (.q 3 (.q 4 (.two 2 5 (.q 6 (.one 5 (.q 7 (.done)))) (.one 2 (.q 6 (.q 7 (.done))))))))) follows (by kernel_rfl) ?_
 refine GoP.qN rfl (ps_fieldAddr rfl rfl) ?_
 refine GoP.qN rfl (ps_load rfl At.p0 At.p0 Nat.zero_lt_one rfl rfl) ?_
 refine GoP.qN rfl (ps_fieldAddr rfl rfl) ?_
 refine GoP.qN rfl (ps_load rfl At.p0 At.p0 Nat.zero_lt_one rfl rfl) ?_
 have c8 := ck_l H; replace H := ck_r H
 apply GoP.fork2
 exact rfl
 exact rfl
 exact trivial
 exact trivial
 exact ef_makeZ rfl rfl c8 rfl rfl rfl
 exact ef_makeZ rfl rfl c8 rfl rfl rfl
 exact (Take.cons _ _ _ _ _ Rem.p0 (Take.nil _))
 exact (Take.cons _ _ _ _ _ Rem.p0 (Take.nil _))
 intro hQ
 rintro _ ⟨β10, rfl⟩
 refine GoP.leD (Le.reH At.p0 (HLe.zeros (α := Int) ⟨trivial, DLe.refl _⟩)) ?_
 refine GoP.qN rfl (ps_assign rfl rfl) ?_
 refine GoP.oneB rfl trivial (ef_makeZ rfl rfl c8 rfl rfl rfl) (Take.cons _ _ _ _ _ Rem.p1 (Take.nil _)) (fun β12 => ?_)
 refine GoP.leD (Le.reH At.p0 (HLe.zeros (α := Bool) ⟨trivial, DLe.refl _⟩)) ?_
 refine GoP.qN rfl (ps_assign rfl rfl) ?_
 exact GoP.done (hQ β10 β12)
 intro hQ
 rintro _ ⟨β11, rfl⟩
 refine GoP.leD (Le.reH At.p0 (HLe.zeros (α := Bool) ⟨trivial, DLe.refl _⟩)) ?_
 refine GoP.oneB rfl trivial (ef_makeZ rfl rfl c8 rfl rfl rfl) (Take.cons _ _ _ _ _ Rem.p1 (Take.nil _)) (fun β13 => ?_)
 refine GoP.leD (Le.reH At.p0 (HLe.zeros (α := Int) ⟨trivial, DLe.refl _⟩)) ?_
 refine GoP.qN rfl (ps_assign rfl rfl) ?_
 refine GoP.qN rfl (ps_assign rfl rfl) ?_
 refine GoP.done (GoK.le ?_ (hQ β13 β11))
 refine Le.ofDW ?_ (TkD.cons _ _ _ _ _ Rem.p1 (HLe.refl _) (TkD.cons _ _ _ _ _ Rem.p0 (HLe.refl _) (TkD.cons _ _ _ _ _ Rem.p0 (HLe.refl _) (TkD.nil _))))
 repeat (first | exact EnvLeW.nil | refine EnvLeW.cons rfl ?_ | refine EnvLeW.skip rfl ?_)
 intro β10 β12
 refine GoK.code ?_
 refine GoC.seq ?_
 refine GoC.region ?_
 refine GoO.pure (ps_move rfl rfl) ?_
 refine GoO.pure (ps_move rfl rfl) ?_
 have c14 := ck_l H; replace H := ck_r H
 refine GoO.pure (ps_indexAddr0 rfl rfl c14 rfl) ?_
 refine GoO.eff1 (ef_store rfl rfl rfl At.p0 (upd_row1 (v := true) rfl) (lt_len (idx_lt c14) (by first | rfl | omega | (simp only [row_len, gridC_len, rowO_len, List.length_replicate] <;> first | rfl | omega))) rfl) ?_
 refine GoO.nil ?_
 refine GoK.code ?_
 refine GoC.seq ?_
 refine GoC.seq ?_
 refine GoC.region ?_
 refine GoO.pure (ps_loadAg rfl At.p2 At.p2 Nat.zero_lt_one rfl rfl) ?_
 refine GoO.pure (ps_move rfl rfl) ?_
 refine GoO.pure (ps_move rfl rfl) ?_
 have hb := bind_l H; clear H
 obtain ⟨⟨r15, l16, l17⟩, e18, H⟩ := hb
 have c19 := ck_l H; replace H := ck_r H
 have c20 := ck_l H; replace H := ck_r H
 refine GoO.effC (ef_call rfl (Take.cons _ _ _ _ _ Rem.p1 (Take.cons _ _ _ _ _ Rem.p0 (Take.nil _))) (Take.nil _) (short_relax_spec g (List.replicate g.n.toNat (0 : Int)) ((List.replicate g.n.toNat false).set s.toNat true) β10 β12 e18) (LendL.cons (Lend.agA ⟨⟨trivial, Lend.refl _ _⟩, Lend.refl _ _⟩) (LendL.cons (Lend.ofLe (DLe.len (by first | rfl | omega | (simp only [subl_length, cpl_length, List.length_set, List.length_append, List.length_cons, List.length_nil, List.length_replicate, row_len] <;> first | rfl | omega)))) (LendL.cons (Lend.ofLe (DLe.len (by first | rfl | omega | (simp only [subl_length, cpl_length, List.length_set, List.length_append, List.length_cons, List.length_nil, List.length_replicate, row_len] <;> first | rfl | omega)))) (LendL.nil)))) rfl (short_relax_I (r15, l16, l17) β10 β12)) (fun rr HH hp => ?_)
 obtain ⟨rfl, rfl⟩ := hp
 refine GoO.pure (ps_not rfl rfl) ?_
 refine GoO.nil ?_
 refine GoK.code ?_
 refine GoC.cond rfl (fun h21 => ?_) (fun h21 => ?_)
 replace H := itb_t h21 H
 refine GoC.seq ?_
 refine GoC.region ?_
 refine GoO.pure (ps_assign rfl rfl) ?_
 refine GoO.pure (ps_assign rfl rfl) ?_
 refine GoO.pure (ps_assign rfl rfl) ?_
 refine GoO.nil ?_
 refine GoK.code ?_
 obtain rfl := Option.some.inj H
 refine GoC.le (le_row0 3 1 (row ([] : List Int)) rfl) ?_
 refine GoC.le (le_row0 4 1 (row ([] : List Bool)) rfl) ?_
 exact GoC.retL (ds := [.own ⟨0, 0, 0⟩ 1 0 0, .own ⟨0, 0, 0⟩ 1 0 0, .v (.int .i64 6)]) Try.results33 (ResL.cons (ResD.le (ResD.tmp rfl) (by exact DLe.nilOwn)) (ResL.cons (ResD.le (ResD.tmp rfl) (by exact DLe.nilOwn)) (ResL.cons (ResD.tmp rfl) (ResL.nil)))) (Take.cons _ _ _ _ _ Rem.p1 (Take.cons _ _ _ _ _ Rem.p0 (Take.nil _))) ⟨⟨0, 0, 0⟩, ⟨0, 0, 0⟩, rfl, rfl⟩
 replace H := itb_f h21 H
 refine GoC.skip ?_
 refine GoK.code ?_
 refine GoC.seq ?_
 refine GoC.region ?_
 refine GoO.pure (ps_move rfl rfl) ?_
 refine GoO.pure (ps_move rfl rfl) ?_
 refine GoO.pure (ps_assign rfl rfl) ?_
 refine GoO.pure (ps_assign rfl rfl) ?_
 refine GoO.pure (ps_assign rfl rfl) ?_
 refine GoO.nil ?_
 refine GoK.code ?_
 obtain rfl := Option.some.inj H
 exact GoC.retL (ds := [.own β10 1 0 l16.length, .own β12 1 0 l17.length, .v (.int .i64 0)]) Try.results33 (ResL.cons (ResD.le (ResD.tmp rfl) (by exact DLe.len (by first | rfl | omega | (simp only [row_len, gridC_len, rowO_len, c19, c20] <;> first | rfl | omega)))) (ResL.cons (ResD.le (ResD.tmp rfl) (by exact DLe.len (by first | rfl | omega | (simp only [row_len, gridC_len, rowO_len, c19, c20] <;> first | rfl | omega)))) (ResL.cons (ResD.tmp rfl) (ResL.nil)))) (Take.cons _ _ _ _ _ Rem.p0 (Take.cons _ _ _ _ _ Rem.p0 (Take.nil _))) ⟨β10, β12, rfl, rfl⟩
 replace H := ite_t h5 H
 refine GoO.guardF rfl rfl rfl rfl ?_
 refine GoO.guardF rfl rfl rfl rfl ?_
 refine GoO.guardF rfl rfl rfl rfl ?_
 refine GoO.pure (ps_pickT rfl rfl rfl) ?_
 refine GoO.nil ?_
 refine GoK.code ?_
 refine GoC.condT rfl ?_
 refine GoC.seq ?_
 refine GoC.region ?_
 refine GoO.pure (ps_assign rfl rfl) ?_
 refine GoO.pure (ps_assign rfl rfl) ?_
 refine GoO.pure (ps_assign rfl rfl) ?_
 refine GoO.nil ?_
 refine GoK.code ?_
 obtain rfl := Option.some.inj H
 refine GoC.le (le_row0 3 1 (row ([] : List Int)) rfl) ?_
 refine GoC.le (le_row0 4 1 (row ([] : List Bool)) rfl) ?_
 exact GoC.retL (ds := [.own ⟨0, 0, 0⟩ 1 0 0, .own ⟨0, 0, 0⟩ 1 0 0, .v (.int .i64 4)]) Try.results33 (ResL.cons (ResD.le (ResD.tmp rfl) (by exact DLe.nilOwn)) (ResL.cons (ResD.le (ResD.tmp rfl) (by exact DLe.nilOwn)) (ResL.cons (ResD.tmp rfl) (ResL.nil)))) (Take.cons _ _ _ _ _ Rem.p1 (Take.cons _ _ _ _ _ Rem.p0 (Take.nil _))) ⟨⟨0, 0, 0⟩, ⟨0, 0, 0⟩, rfl, rfl⟩

def short_Heights_B1 : Nat → (List Bool) → Option ((List Bool)) := fun k18 l13 =>
 ck (k18 < l13.length) <|
 some (l13.set k18 true)
def short_Heights_F (g : Graph) : Option ((List Int) × Int) :=
 (graph_CheckLong_F g).bind fun r2 =>
 if r2 ≠ 0 then
  some ([], r2)
 else
  ck (0 ≤ g.n ∧ g.n ≤ 10000000000) <|
  (forN (short_Heights_B1) g.n.toNat 0 (List.replicate g.n.toNat false)).bind fun l17 =>
  (short_relax_F g (List.replicate g.n.toNat (0 : Int)) l17).bind fun (r22, l23, l24) =>
  ck (l23.length = g.n.toNat) <|
  ck (l24.length = l17.length) <|
  if (!r22) = true then
   some ([], 6)
  else
   some (l23, 0)
def short_Heights_P (out : (List Int) × Int) (d : D) (H : List HL) : Prop := ∃ β1 : BK, d = .tp 2 (nth [.own β1 1 0 out.1.length, .v (.int .i64 out.2)]) ∧ H = [.one β1 3 1 (row out.1)]
theorem short_Heights_I (out : (List Int) × Int) : IndepP (short_Heights_P out) := IndepP.of (by rintro _ _ ⟨β1, rfl, rfl⟩; exact ⟨inferInstance, inferInstance⟩)
set_option maxRecDepth 100000 in
set_option maxHeartbeats 4000000 in
theorem short_Heights_spec (g : Graph) {out : (List Int) × Int} (H : short_Heights_F g = some out) : Does Try.prog 41 [.ag 2 (nth [.v (.int .i64 g.n), slD g.as])] [] (short_Heights_P out) := by
 unfold short_Heights_F at H
 refine Does.intro Try.func41 rfl Try.ntmps41 rfl fun w0 I0 => ?_
 refine GoC.seq ?_
 refine GoC.region ?_
 refine GoO.effB (ef_boxAg rfl rfl) (fun β1 => ?_)
 refine GoO.pure (ps_assign rfl rfl) ?_
 refine GoO.pure (ps_assign rfl rfl) ?_
 refine GoO.nil ?_
 refine GoK.code ?_
 refine GoC.seq ?_
 refine GoC.seq ?_
 refine GoC.region ?_
 refine GoO.pure (ps_loadAg rfl At.p0 At.p0 Nat.zero_lt_one rfl rfl) ?_
 have hb := bind_l H; clear H
 obtain ⟨r2, e3, H⟩ := hb
 refine GoO.effC (ef_call rfl (Take.nil _) (Take.nil _) (graph_CheckLong_spec g e3) (LendL.cons (Lend.agA ⟨⟨trivial, Lend.refl _ _⟩, Lend.refl _ _⟩) (LendL.nil)) rfl (graph_CheckLong_I (r2))) (fun rr HH hp => ?_)
 obtain ⟨rfl, rfl⟩ := hp
 refine GoO.pure (ps_assign rfl rfl) ?_
 refine GoO.nil ?_
 refine GoK.code ?_
 refine GoC.seq ?_
 refine GoC.region ?_
 refine GoO.pure (ps_move rfl rfl) ?_
 refine GoO.pure (ps_neq rfl rfl rfl) ?_
 refine GoO.nil ?_
 refine GoK.code ?_
 refine GoC.condD rfl (fun h4 => ?_) (fun h4 => ?_)
 replace H := ite_t h4 H
 refine GoC.seq ?_
 refine GoC.region ?_
 refine GoO.pure (ps_move rfl rfl) ?_
 refine GoO.pure (ps_assign rfl rfl) ?_
 refine GoO.pure (ps_assign rfl rfl) ?_
 refine GoO.nil ?_
 refine GoK.code ?_
 obtain rfl := Option.some.inj H
 refine GoC.le (le_row0 3 1 (row ([] : List Int)) rfl) ?_
 exact GoC.retL (ds := [.own ⟨0, 0, 0⟩ 1 0 0, .v (.int .i64 r2)]) Try.results41 (ResL.cons (ResD.le (ResD.tmp rfl) (by exact DLe.nilOwn)) (ResL.cons (ResD.tmp rfl) (ResL.nil))) (Take.cons _ _ _ _ _ Rem.p0 (Take.nil _)) ⟨⟨0, 0, 0⟩, rfl, rfl⟩
 replace H := ite_f h4 H
 refine GoC.skip ?_
 refine GoK.code ?_
 refine GoC.seq ?_
 refine GoC.drawA (.q 0 (.q 1 (.q 3 (.q 4 (.two 2 5 (.q 6 (.one 5 (.q 7 (.done)))) (.one 2 (.q 6 (.q 7 (.done))))))))) follows (by kernel_rfl) ?_
 refine GoP.qN rfl (ps_fieldAddr rfl rfl) ?_
 refine GoP.qN rfl (ps_load rfl At.p0 At.p0 Nat.zero_lt_one rfl rfl) ?_
 refine GoP.qN rfl (ps_fieldAddr rfl rfl) ?_
 refine GoP.qN rfl (ps_load rfl At.p0 At.p0 Nat.zero_lt_one rfl rfl) ?_
 have c6 := ck_l H; replace H := ck_r H
 apply GoP.fork2
 exact rfl
 exact rfl
 exact trivial
 exact trivial
 exact ef_makeZ rfl rfl c6 rfl rfl rfl
 exact ef_makeZ rfl rfl c6 rfl rfl rfl
 exact (Take.cons _ _ _ _ _ Rem.p0 (Take.nil _))
 exact (Take.cons _ _ _ _ _ Rem.p0 (Take.nil _))
 intro hQ
 rintro _ ⟨β8, rfl⟩
 refine GoP.leD (Le.reH At.p0 (HLe.zeros (α := Int) ⟨trivial, DLe.refl _⟩)) ?_
 refine GoP.qN rfl (ps_assign rfl rfl) ?_
 refine GoP.oneB rfl trivial (ef_makeZ rfl rfl c6 rfl rfl rfl) (Take.cons _ _ _ _ _ Rem.p1 (Take.nil _)) (fun β10 => ?_)
 refine GoP.leD (Le.reH At.p0 (HLe.zeros (α := Bool) ⟨trivial, DLe.refl _⟩)) ?_
 refine GoP.qN rfl (ps_assign rfl rfl) ?_
 exact GoP.done (hQ β8 β10)
 intro hQ
 rintro _ ⟨β9, rfl⟩
 refine GoP.leD (Le.reH At.p0 (HLe.zeros (α := Bool) ⟨trivial, DLe.refl _⟩)) ?_
 refine GoP.oneB rfl trivial (ef_makeZ rfl rfl c6 rfl rfl rfl) (Take.cons _ _ _ _ _ Rem.p1 (Take.nil _)) (fun β11 => ?_)
 refine GoP.leD (Le.reH At.p0 (HLe.zeros (α := Int) ⟨trivial, DLe.refl _⟩)) ?_
 refine GoP.qN rfl (ps_assign rfl rfl) ?_
 refine GoP.qN rfl (ps_assign rfl rfl) ?_
 refine GoP.done (GoK.le ?_ (hQ β11 β9))
 refine Le.ofDW ?_ (TkD.cons _ _ _ _ _ Rem.p1 (HLe.refl _) (TkD.cons _ _ _ _ _ Rem.p0 (HLe.refl _) (TkD.cons _ _ _ _ _ Rem.p0 (HLe.refl _) (TkD.nil _))))
 repeat (first | exact EnvLeW.nil | refine EnvLeW.cons rfl ?_ | refine EnvLeW.skip rfl ?_)
 intro β8 β10
 refine GoK.code ?_
 refine GoC.seq ?_
 refine GoC.seq ?_
 refine GoC.region ?_
 refine GoO.pure (ps_move rfl rfl) ?_
 refine GoO.pure (ps_len rfl (by constructor) rfl) ?_
 refine GoO.lenLe (n := g.n.toNat) (x := .tmp 19) rfl (by constructor) own_lenLe (fun ml12 => ?_)
 refine GoO.pure (ps_move rfl rfl) ?_
 refine GoO.nil ?_
 refine GoK.code ?_
 have hb := bind_l H; clear H
 obtain ⟨l17, hl21, HK14⟩ := hb
 refine GoC.blockJ [(1, .ptr β1 2 0 0), (5, .own β8 1 0 g.n.toNat)] [.one β8 3 1 (row (List.replicate g.n.toNat (0 : Int))), .one β1 25 2 (st1 (nth [.v (.int .i64 g.n), slD g.as]))] (fun v h => v = [(6, .own β10 1 0 l17.length)] ∧ h = [.one β10 4 1 (row l17)]) ?_ ?_
 refine GoC.loopJ [(1, _), (5, _), (20, _)] [.one β8 3 1 (row (List.replicate g.n.toNat (0 : Int))), .one β1 25 2 (st1 (nth [.v (.int .i64 g.n), slD g.as]))] (fun mQ v h => ∃ (k18 : Nat) (l13 : (List Bool)), (k18 + mQ = g.n.toNat ∧ forN (short_Heights_B1) mQ k18 l13 = some l17) ∧ v = [(21, .v (.int .i64 ((k18 : Nat) : Int))), (6, .own β10 1 0 l13.length)] ∧ h = [.one β10 4 1 (row l13)]) g.n.toNat ⟨_, _, ⟨by omega, hl21⟩, rfl, rfl⟩ (EnvD.eq rfl (EnvD.cons rfl (DLe.len (by first | rfl | omega | (simp only [row_len, gridC_len, rowO_len, List.length_replicate] <;> first | rfl | omega))) (EnvD.eq rfl (EnvD.eq rfl (EnvD.eq rfl (EnvD.nil)))))) (TkD.cons _ _ _ _ _ Rem.p0 (HLe.refl _) (TkD.cons _ _ _ _ _ Rem.p0 (HLe.refl _) (TkD.cons _ _ _ _ _ Rem.p0 (HLe.st ⟨⟨trivial, DLe.refl _⟩, DLe.refl _⟩) (TkD.nil _)))) ?_
 rintro m19 v h ⟨k18, l13, ⟨hkk18, hF15⟩, rfl, rfl⟩
 refine GoC.seq ?_
 refine GoC.region ?_
 refine GoO.pure (ps_lss rfl rfl rfl) ?_
 refine GoO.nil ?_
 refine GoK.code ?_
 refine GoC.seq ?_
 refine GoC.condD rfl (fun (hk18 : (k18 : Int) < ((g.n.toNat : Nat) : Int)) => ?_) (fun (hk18 : ¬ (k18 : Int) < ((g.n.toNat : Nat) : Int)) => ?_)
 obtain ⟨m19', rfl⟩ : ∃ x, m19 = x + 1 := ⟨m19 - 1, by omega⟩
 have hb := bind_l hF15; clear hF15
 obtain ⟨qrm19, H, hF15⟩ := hb
 have hnk18 : k18 < g.n.toNat := by omega
 have hIk18 : InI ((k18 : Int) + 1) := inI_len hk18 ml12
 refine GoC.skip ?_
 refine GoK.code ?_
 refine GoC.seq ?_
 refine GoC.block ?_
 refine GoC.seq ?_
 refine GoC.region ?_
 refine GoO.pure (ps_move rfl rfl) ?_
 refine GoO.pure (ps_assign rfl rfl) ?_
 refine GoO.nil ?_
 refine GoK.code ?_
 refine GoC.region ?_
 refine GoO.pure (ps_move rfl rfl) ?_
 refine GoO.pure (ps_move rfl rfl) ?_
 have c20 := ck_l H; replace H := ck_r H
 refine GoO.pure (ps_indexAddr0N rfl rfl c20 rfl) ?_
 refine GoO.eff1 (ef_store rfl rfl rfl At.p0 (upd_row1 (v := true) rfl) c20 rfl) ?_
 refine GoO.nil ?_
 refine GoK.blk ?_
 refine GoK.code ?_
 refine GoC.region ?_
 refine GoO.pure (ps_add rfl rfl rfl hIk18) ?_
 refine GoO.pure (ps_move rfl rfl) ?_
 refine GoO.nil ?_
 obtain rfl := Option.some.inj H
 exact GoK.againJ m19' (by omega) ⟨_, _, ⟨by omega, hF15⟩, rfl, rfl⟩ (EnvD.eq rfl (EnvD.cons rfl (DLe.len (by first | rfl | omega | (simp only [row_len, gridC_len, rowO_len, List.length_set] <;> first | rfl | omega))) (EnvD.eq rfl (EnvD.eq rfl (EnvD.eq rfl (EnvD.nil)))))) (TkD.cons _ _ _ _ _ Rem.p0 (HLe.refl _) (TkD.cons _ _ _ _ _ Rem.p0 (HLe.refl _) (TkD.cons _ _ _ _ _ Rem.p0 (HLe.st ⟨⟨trivial, DLe.refl _⟩, DLe.refl _⟩) (TkD.nil _))))
 obtain rfl : m19 = 0 := by omega
 refine GoC.exit rfl ?_
 cases hF15
 exact GoK.meet ⟨rfl, rfl⟩ (EnvD.cons rfl (DLe.len (by first | rfl | omega | (simp only [row_len, gridC_len, rowO_len] <;> first | rfl | omega))) (EnvD.eq rfl (EnvD.cons rfl (DLe.len (by first | rfl | omega | (simp only [row_len, gridC_len, rowO_len, List.length_replicate] <;> first | rfl | omega))) (EnvD.nil)))) (TkD.cons _ _ _ _ _ Rem.p0 (HLe.refl _) (TkD.cons _ _ _ _ _ Rem.p0 (HLe.refl _) (TkD.cons _ _ _ _ _ Rem.p0 (HLe.st ⟨⟨trivial, DLe.refl _⟩, DLe.refl _⟩) (TkD.nil _))))
 rintro v h ⟨rfl, rfl⟩
 have H := HK14; clear HK14
 refine GoK.code ?_
 refine GoC.seq ?_
 refine GoC.seq ?_
 refine GoC.region ?_
 refine GoO.pure (ps_loadAg rfl At.p2 At.p2 Nat.zero_lt_one rfl rfl) ?_
 refine GoO.pure (ps_move rfl rfl) ?_
 refine GoO.pure (ps_move rfl rfl) ?_
 have hb := bind_l H; clear H
 obtain ⟨⟨r22, l23, l24⟩, e25, H⟩ := hb
 have c26 := ck_l H; replace H := ck_r H
 have c27 := ck_l H; replace H := ck_r H
 refine GoO.effC (ef_call rfl (Take.cons _ _ _ _ _ Rem.p1 (Take.cons _ _ _ _ _ Rem.p0 (Take.nil _))) (Take.nil _) (short_relax_spec g (List.replicate g.n.toNat (0 : Int)) l17 β8 β10 e25) (LendL.cons (Lend.agA ⟨⟨trivial, Lend.refl _ _⟩, Lend.refl _ _⟩) (LendL.cons (Lend.ofLe (DLe.len (by first | rfl | omega | (simp only [subl_length, cpl_length, List.length_set, List.length_append, List.length_cons, List.length_nil, List.length_replicate, row_len] <;> first | rfl | omega)))) (LendL.cons (Lend.refl _ _) (LendL.nil)))) rfl (short_relax_I (r22, l23, l24) β8 β10)) (fun rr HH hp => ?_)
 obtain ⟨rfl, rfl⟩ := hp
 refine GoO.pure (ps_not rfl rfl) ?_
 refine GoO.nil ?_
 refine GoK.code ?_
 refine GoC.cond rfl (fun h28 => ?_) (fun h28 => ?_)
 replace H := itb_t h28 H
 refine GoC.seq ?_
 refine GoC.region ?_
 refine GoO.pure (ps_assign rfl rfl) ?_
 refine GoO.pure (ps_assign rfl rfl) ?_
 refine GoO.nil ?_
 refine GoK.code ?_
 obtain rfl := Option.some.inj H
 refine GoC.le (le_row0 3 1 (row ([] : List Int)) rfl) ?_
 exact GoC.retL (ds := [.own ⟨0, 0, 0⟩ 1 0 0, .v (.int .i64 6)]) Try.results41 (ResL.cons (ResD.le (ResD.tmp rfl) (by exact DLe.nilOwn)) (ResL.cons (ResD.tmp rfl) (ResL.nil))) (Take.cons _ _ _ _ _ Rem.p0 (Take.nil _)) ⟨⟨0, 0, 0⟩, rfl, rfl⟩
 replace H := itb_f h28 H
 refine GoC.skip ?_
 refine GoK.code ?_
 refine GoC.seq ?_
 refine GoC.region ?_
 refine GoO.pure (ps_move rfl rfl) ?_
 refine GoO.pure (ps_assign rfl rfl) ?_
 refine GoO.pure (ps_assign rfl rfl) ?_
 refine GoO.nil ?_
 refine GoK.code ?_
 obtain rfl := Option.some.inj H
 exact GoC.retL (ds := [.own β8 1 0 l23.length, .v (.int .i64 0)]) Try.results41 (ResL.cons (ResD.le (ResD.tmp rfl) (by exact DLe.len (by first | rfl | omega | (simp only [row_len, gridC_len, rowO_len, c26, c27] <;> first | rfl | omega)))) (ResL.cons (ResD.tmp rfl) (ResL.nil))) (Take.cons _ _ _ _ _ Rem.p0 (Take.nil _)) ⟨β8, rfl, rfl⟩

def short_All_B1 (g : Graph) : Nat → ((List (List Int)) × (List (List Bool))) → Option ((List (List Int)) × (List (List Bool))) := fun k21 (g12, l15) =>
 (short_From_F g ((k21 : Nat) : Int)).bind fun (r23, r25, r27) =>
 ck (g12.length + 1 ≤ 5864062014805) <|
 ck (l15.length + 1 ≤ 5864062014805) <|
 some ((g12 ++ [r23]), (l15 ++ ([r25] : List (List Bool))))
def short_All_F (g : Graph) : Option ((List (List Int)) × (List (List Bool)) × Int) :=
 (short_Heights_F g).bind fun (r3, r5) =>
 if r5 ≠ 0 then
  some (([] : List (List Int)), [], r5)
 else
  (forN (short_All_B1 g) r3.length 0 (([] : List (List Int)), [])).bind fun (g19, l20) =>
  some (g19, l20, 0)
def short_All_P (out : (List (List Int)) × (List (List Bool)) × Int) (d : D) (H : List HL) : Prop := ∃ β1 β2 : BK, ∃ Γr0 : Nat → BK, d = .tp 3 (nth [.own β1 1 0 out.1.length, .own β2 1 0 out.2.1.length, .v (.int .i64 out.2.2)]) ∧ H = [.one β1 30 1 (gridS (α := (List Int)) Γr0 out.1), gridI (α := (List Int)) 3 Γr0 out.1, .one β2 71 1 (row out.2.1)]
set_option maxRecDepth 100000 in
set_option maxHeartbeats 4000000 in
theorem short_All_spec (g : Graph) {out : (List (List Int)) × (List (List Bool)) × Int} (H : short_All_F g = some out) : Does Try.prog 13 [.ag 2 (nth [.v (.int .i64 g.n), slD g.as])] [] (short_All_P out) := by
 unfold short_All_F at H
 refine Does.intro Try.func13 rfl Try.ntmps13 rfl fun w0 I0 => ?_
 refine GoC.seq ?_
 refine GoC.region ?_
 refine GoO.effB (ef_boxAg rfl rfl) (fun β1 => ?_)
 refine GoO.pure (ps_assign rfl rfl) ?_
 obtain ⟨β2, hβ2⟩ : ∃ β : BK, β = ⟨0, 0, 0⟩ := ⟨_, rfl⟩
 refine GoO.le (Le.gsI 3 (List Int)) ?_
 refine GoO.le (le_nil 2 30 1 (gridS (α := (List Int)) (fun _ => ⟨0, 0, 0⟩) []) rfl rfl) ?_
 rw [← hβ2]
 refine GoO.pure (ps_assign rfl rfl) ?_
 refine GoO.pure (ps_assign rfl rfl) ?_
 refine GoO.nil ?_
 refine GoK.code ?_
 refine GoC.seq ?_
 refine GoC.region ?_
 refine GoO.pure (ps_loadAg rfl At.p2 At.p2 Nat.zero_lt_one rfl rfl) ?_
 have hb := bind_l H; clear H
 obtain ⟨⟨r3, r5⟩, e6, H⟩ := hb
 refine GoO.effC (ef_call rfl (Take.nil _) (Take.nil _) (short_Heights_spec g e6) (LendL.cons (Lend.agA ⟨⟨trivial, Lend.refl _ _⟩, Lend.refl _ _⟩) (LendL.nil)) rfl (short_Heights_I (r3, r5))) (fun rr HH hp => ?_)
 obtain ⟨β4, rfl, rfl⟩ := hp
 refine GoO.pure (ps_move rfl rfl) ?_
 refine GoO.pure (ps_extract rfl rfl rfl) ?_
 refine GoO.pure (ps_extract rfl rfl rfl) ?_
 refine GoO.pure (ps_assign rfl rfl) ?_
 refine GoO.pure (ps_assign rfl rfl) ?_
 refine GoO.nil ?_
 refine GoK.code ?_
 refine GoC.seq ?_
 refine GoC.seq ?_
 refine GoC.region ?_
 refine GoO.pure (ps_move rfl rfl) ?_
 refine GoO.pure (ps_neq rfl rfl rfl) ?_
 refine GoO.nil ?_
 refine GoK.code ?_
 refine GoC.condD rfl (fun h7 => ?_) (fun h7 => ?_)
 replace H := ite_t h7 H
 refine GoC.seq ?_
 refine GoC.region ?_
 refine GoO.pure (ps_move rfl rfl) ?_
 refine GoO.pure (ps_assign rfl rfl) ?_
 obtain ⟨β8, hβ8⟩ : ∃ β : BK, β = ⟨0, 0, 0⟩ := ⟨_, rfl⟩
 refine GoO.le (Le.gsI 3 (List Int)) ?_
 refine GoO.le (le_nil 2 30 1 (gridS (α := (List Int)) (fun _ => ⟨0, 0, 0⟩) []) rfl rfl) ?_
 rw [← hβ8]
 refine GoO.pure (ps_assign rfl rfl) ?_
 refine GoO.pure (ps_assign rfl rfl) ?_
 refine GoO.nil ?_
 refine GoK.code ?_
 obtain rfl := Option.some.inj H
 refine GoC.le (le_row0 71 1 (row ([] : List (List Bool))) rfl) ?_
 exact GoC.retL (ds := [.own β8 1 0 ([] : List (List Int)).length, .own ⟨0, 0, 0⟩ 1 0 0, .v (.int .i64 r5)]) Try.results13 (ResL.cons (ResD.le (ResD.tmp rfl) (by exact DLe.len (by first | rfl | omega | (simp only [row_len, gridC_len, rowO_len, gridS_len, List.length_cons, List.length_nil, List.length_nil] <;> first | rfl | omega)))) (ResL.cons (ResD.le (ResD.tmp rfl) (by exact DLe.nilOwn)) (ResL.cons (ResD.tmp rfl) (ResL.nil)))) (Take.cons _ _ _ _ _ Rem.p1 (Take.cons _ _ _ _ _ Rem.p1 (Take.cons _ _ _ _ _ Rem.p0 (Take.nil _)))) ⟨β8, ⟨0, 0, 0⟩, (fun _ => β8), rfl, rfl⟩
 replace H := ite_f h7 H
 refine GoC.skip ?_
 refine GoK.code ?_
 refine GoC.seq ?_
 refine GoC.region ?_
 refine GoO.pure (ps_assign rfl rfl) ?_
 obtain ⟨β9, hβ9⟩ : ∃ β : BK, β = ⟨0, 0, 0⟩ := ⟨_, rfl⟩
 refine GoO.le (Le.gsI 3 (List Int)) ?_
 refine GoO.le (le_nil 7 30 1 (gridS (α := (List Int)) (fun _ => ⟨0, 0, 0⟩) []) rfl rfl) ?_
 rw [← hβ9]
 refine GoO.nil ?_
 refine GoK.code ?_
 refine GoC.seq ?_
 refine GoC.region ?_
 refine GoO.pure (ps_assign rfl rfl) ?_
 refine GoO.nil ?_
 refine GoK.code ?_
 refine GoC.seq ?_
 refine GoC.seq ?_
 refine GoC.region ?_
 refine GoO.pure (ps_move rfl rfl) ?_
 refine GoO.pure (ps_len rfl (by constructor) rfl) ?_
 refine GoO.lenLe (n := r3.length) (x := .tmp 21) rfl (by constructor) own_lenLe (fun ml10 => ?_)
 refine GoO.pure (ps_move rfl rfl) ?_
 refine GoO.nil ?_
 refine GoK.code ?_
 have hb := bind_l H; clear H
 obtain ⟨⟨g19, l20⟩, hl35, HK16⟩ := hb
 refine GoC.blockJ [] [.one β4 3 1 (row r3), .one β2 30 1 (gridS (α := (List Int)) (fun _ => β2) ([] : List (List Int))), gridI (α := (List Int)) 3 (fun _ => β2) ([] : List (List Int)), .one β1 25 2 (st1 (nth [.v (.int .i64 g.n), slD g.as]))] (fun v h => ∃ (β11 : BK) (Γ13 : Nat → BK) (β14 : BK), v = [(7, .own β11 1 0 g19.length), (8, .own β14 1 0 l20.length)] ∧ h = [.one β11 30 1 (gridS (α := (List Int)) Γ13 g19), gridI (α := (List Int)) 3 Γ13 g19, .one β14 71 1 (row l20)]) ?_ ?_
 refine GoC.loopJ [(1, _), (22, _)] [.one β4 3 1 (row r3), .one β2 30 1 (gridS (α := (List Int)) (fun _ => β2) ([] : List (List Int))), gridI (α := (List Int)) 3 (fun _ => β2) ([] : List (List Int)), .one β1 25 2 (st1 (nth [.v (.int .i64 g.n), slD g.as]))] (fun mQ v h => ∃ (k21 : Nat) (g12 : (List (List Int))) (l15 : (List (List Bool))) (β11 : BK) (Γ13 : Nat → BK) (β14 : BK), (k21 + mQ = r3.length ∧ forN (short_All_B1 g) mQ k21 (g12, l15) = some (g19, l20)) ∧ v = [(23, .v (.int .i64 ((k21 : Nat) : Int))), (7, .own β11 1 0 g12.length), (8, .own β14 1 0 l15.length)] ∧ h = [.one β11 30 1 (gridS (α := (List Int)) Γ13 g12), gridI (α := (List Int)) 3 Γ13 g12, .one β14 71 1 (row l15)]) r3.length ⟨_, _, _, β9, (fun _ => β9), ⟨0, 0, 0⟩, ⟨by omega, hl35⟩, rfl, rfl⟩ (EnvD.eq rfl (EnvD.cons rfl (DLe.len (by first | rfl | omega | (simp only [row_len, gridC_len, rowO_len, gridS_len, List.length_cons, List.length_nil, List.length_nil] <;> first | rfl | omega))) (EnvD.cons rfl (DLe.nilOwn) (EnvD.eq rfl (EnvD.eq rfl (EnvD.nil)))))) (TkD.cons _ _ _ _ _ Rem.p0 (HLe.refl _) (TkD.cons _ _ _ _ _ Rem.p0 (HLe.refl _) (TkD.no _ _ _ _ _ rfl (TkD.cons _ _ _ _ _ Rem.p0 (HLe.refl _) (TkD.cons _ _ _ _ _ Rem.p0 (HLe.refl _) (TkD.cons _ _ _ _ _ Rem.p0 (HLe.refl _) (TkD.cons _ _ _ _ _ Rem.p0 (HLe.st ⟨⟨trivial, DLe.refl _⟩, DLe.refl _⟩) (TkD.nil _)))))))) ?_
 rintro m22 v h ⟨k21, g12, l15, β11, Γ13, β14, ⟨hkk21, hF17⟩, rfl, rfl⟩
 refine GoC.seq ?_
 refine GoC.region ?_
 refine GoO.pure (ps_lss rfl rfl rfl) ?_
 refine GoO.nil ?_
 refine GoK.code ?_
 refine GoC.seq ?_
 refine GoC.condD rfl (fun (hk21 : (k21 : Int) < ((r3.length : Nat) : Int)) => ?_) (fun (hk21 : ¬ (k21 : Int) < ((r3.length : Nat) : Int)) => ?_)
 obtain ⟨m22', rfl⟩ : ∃ x, m22 = x + 1 := ⟨m22 - 1, by omega⟩
 have hb := bind_l hF17; clear hF17
 obtain ⟨qrm22, H, hF17⟩ := hb
 have hnk21 : k21 < r3.length := by omega
 have hIk21 : InI ((k21 : Int) + 1) := inI_len hk21 ml10
 refine GoC.skip ?_
 refine GoK.code ?_
 refine GoC.seq ?_
 refine GoC.block ?_
 refine GoC.seq ?_
 refine GoC.region ?_
 refine GoO.pure (ps_move rfl rfl) ?_
 refine GoO.pure (ps_assign rfl rfl) ?_
 refine GoO.nil ?_
 refine GoK.code ?_
 refine GoC.seq ?_
 refine GoC.region ?_
 refine GoO.pure (ps_loadAg rfl At.p6 At.p6 Nat.zero_lt_one rfl rfl) ?_
 refine GoO.pure (ps_move rfl rfl) ?_
 have hb := bind_l H; clear H
 obtain ⟨⟨r23, r25, r27⟩, e28, H⟩ := hb
 refine GoO.effC (ef_call rfl (Take.nil _) (Take.nil _) (short_From_spec g ((k21 : Nat) : Int) e28) (LendL.cons (Lend.agA ⟨⟨trivial, Lend.refl _ _⟩, Lend.refl _ _⟩) (LendL.cons (Lend.refl _ _) (LendL.nil))) rfl (short_From_I (r23, r25, r27))) (fun rr HH hp => ?_)
 obtain ⟨β24, β26, rfl, rfl⟩ := hp
 refine GoO.pure (ps_move rfl rfl) ?_
 refine GoO.pure (ps_extract rfl rfl rfl) ?_
 refine GoO.pure (ps_extract rfl rfl rfl) ?_
 refine GoO.pure (ps_extract rfl rfl rfl) ?_
 refine GoO.pure (ps_assign rfl rfl) ?_
 refine GoO.pure (ps_assign rfl rfl) ?_
 refine GoO.pure (ps_assign rfl rfl) ?_
 refine GoO.nil ?_
 refine GoK.code ?_
 refine GoC.region ?_
 refine GoO.pure (ps_move rfl rfl) ?_
 refine GoO.pure (ps_move rfl rfl) ?_
 refine GoO.effB (ef_buildSlice (st1 (nth [.own β24 1 0 r23.length])) rfl (Parts.cons _ _ _ _ _ _ _ _ ⟨rfl, rfl⟩ (Part.one _ rfl rfl) rfl rfl (Parts.nil _)) rfl rfl rfl rfl) (fun β29 => ?_)
 have c30 := ck_l H; replace H := ck_r H
 refine GoO.effB (ef_append rfl rfl Rem.p3 (Src.own At.p0 (by show 0 + 1 ≤ 1; omega)) (cat_gs1 (α := (List Int)) (xs := g12) (γ := β24) r23 rfl (by first | rfl | omega | (simp only [row_len, gridC_len, rowO_len, gridS_len] <;> first | rfl | omega)) (fun f hf => by have hf2 : f < 1 := hf; match f, hf2 with | 0, _ => rfl)) (by simp only [gridS_len, Nat.zero_add]; omega) (app_le c30 rfl) rfl rfl rfl) (fun β31 => ?_)
 refine GoO.pure (ps_move rfl rfl) ?_
 refine GoO.pure (ps_move rfl rfl) ?_
 refine GoO.freezeJ (j := 38) rfl Rem.p3 (Lend.all' At.p0 (by first | rfl | omega | (simp only [row_len, gridC_len, rowO_len, gridS_len] <;> first | rfl | omega)) rfl) no_fps ?_
 refine GoO.effB (ef_buildSlice (row ([r25] : List (List Bool))) rfl (Parts.cons _ _ _ _ _ _ _ _ ⟨rfl, rfl⟩ (Part.one _ rfl rfl) rfl rfl (Parts.nil _)) rfl rfl rfl rfl) (fun β32 => ?_)
 have c34 := ck_l H; replace H := ck_r H
 refine GoO.effB (ef_append rfl rfl Rem.p5 (Src.own At.p0 (by first | omega | (simp only [subl_length, cpl_length, List.length_set, List.length_append, List.length_cons, List.length_nil, List.length_replicate, row_len]; omega) | (simp only [subl_length, cpl_length, List.length_set, List.length_append, List.length_cons, List.length_nil, List.length_replicate, row_len]; done))) (cat_row (α := (List Bool)) (by first | rfl | omega | (simp only [subl_length, cpl_length, List.length_set, List.length_append, List.length_cons, List.length_nil, List.length_replicate, row_len] <;> first | rfl | omega)) (by first | rfl | omega | (simp only [subl_length, cpl_length, List.length_set, List.length_append, List.length_cons, List.length_nil, List.length_replicate, row_len] <;> first | rfl | omega)) (fun _ _ _ _ => rfl)) (by first | omega | (simp only [subl_length, cpl_length, List.length_set, List.length_append, List.length_cons, List.length_nil, List.length_replicate, row_len]; omega) | (simp only [subl_length, cpl_length, List.length_set, List.length_append, List.length_cons, List.length_nil, List.length_replicate, row_len]; done)) (app_le c34 rfl) rfl rfl rfl) (fun β33 => ?_)
 refine GoO.pure (ps_assign rfl rfl) ?_
 refine GoO.pure (ps_assign rfl rfl) ?_
 refine GoO.nil ?_
 refine GoK.blk ?_
 refine GoK.code ?_
 refine GoC.region ?_
 refine GoO.pure (ps_add rfl rfl rfl hIk21) ?_
 refine GoO.pure (ps_move rfl rfl) ?_
 refine GoO.nil ?_
 refine GoK.le (Le.absorbS (α := (List Int)) r23 Rem.p4 Rem.p4 rfl) ?_
 obtain rfl := Option.some.inj H
 exact GoK.againJ m22' (by omega) ⟨_, _, _, β31, (updF Γ13 g12.length β24), β33, ⟨by omega, hF17⟩, rfl, rfl⟩ (EnvD.eq rfl (EnvD.cons rfl (DLe.len (by first | rfl | omega | (simp only [row_len, gridC_len, rowO_len, gridS_len, List.length_append, List.length_cons, List.length_nil] <;> first | rfl | omega))) (EnvD.cons rfl (DLe.len (by first | rfl | omega | (simp only [row_len, gridC_len, rowO_len, gridS_len, List.length_append, List.length_cons, List.length_nil] <;> first | rfl | omega))) (EnvD.eq rfl (EnvD.eq rfl (EnvD.nil)))))) (TkD.cons _ _ _ _ _ Rem.p3 (HLe.refl _) (TkD.cons _ _ _ _ _ Rem.p0 (HLe.refl _) (TkD.cons _ _ _ _ _ Rem.p0 (HLe.refl _) (TkD.cons _ _ _ _ _ Rem.p2 (HLe.refl _) (TkD.cons _ _ _ _ _ Rem.p2 (HLe.refl _) (TkD.cons _ _ _ _ _ Rem.p2 (HLe.refl _) (TkD.cons _ _ _ _ _ Rem.p2 (HLe.st ⟨⟨trivial, DLe.refl _⟩, DLe.refl _⟩) (TkD.nil _))))))))
 obtain rfl : m22 = 0 := by omega
 refine GoC.exit rfl ?_
 cases hF17
 exact GoK.meet ⟨β11, Γ13, β14, rfl, rfl⟩ (EnvD.cons rfl (DLe.len (by first | rfl | omega | (simp only [row_len, gridC_len, rowO_len, gridS_len] <;> first | rfl | omega))) (EnvD.cons rfl (DLe.len (by first | rfl | omega | (simp only [row_len, gridC_len, rowO_len, gridS_len] <;> first | rfl | omega))) (EnvD.nil))) (TkD.cons _ _ _ _ _ Rem.p0 (HLe.refl _) (TkD.cons _ _ _ _ _ Rem.p0 (HLe.refl _) (TkD.cons _ _ _ _ _ Rem.p0 (HLe.refl _) (TkD.cons _ _ _ _ _ Rem.p0 (HLe.refl _) (TkD.cons _ _ _ _ _ Rem.p0 (HLe.refl _) (TkD.cons _ _ _ _ _ Rem.p0 (HLe.refl _) (TkD.cons _ _ _ _ _ Rem.p0 (HLe.st ⟨⟨trivial, DLe.refl _⟩, DLe.refl _⟩) (TkD.nil _))))))))
 rintro v h ⟨β11, Γ13, β14, rfl, rfl⟩
 have H := HK16; clear HK16
 refine GoK.code ?_
 refine GoC.seq ?_
 refine GoC.region ?_
 refine GoO.pure (ps_move rfl rfl) ?_
 refine GoO.pure (ps_move rfl rfl) ?_
 refine GoO.pure (ps_assign rfl rfl) ?_
 refine GoO.pure (ps_assign rfl rfl) ?_
 refine GoO.pure (ps_assign rfl rfl) ?_
 refine GoO.nil ?_
 refine GoK.code ?_
 obtain rfl := Option.some.inj H
 exact GoC.retL (ds := [.own β11 1 0 g19.length, .own β14 1 0 l20.length, .v (.int .i64 0)]) Try.results13 (ResL.cons (ResD.tmp rfl) (ResL.cons (ResD.tmp rfl) (ResL.cons (ResD.tmp rfl) (ResL.nil)))) (Take.cons _ _ _ _ _ Rem.p0 (Take.cons _ _ _ _ _ Rem.p0 (Take.cons _ _ _ _ _ Rem.p0 (Take.nil _)))) ⟨β11, β14, Γ13, rfl, rfl⟩

end Go.Proofs.Ytlpelkfcmeapiaa
