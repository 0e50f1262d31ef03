/- The functions weirkeep.FlowOwn, told as plain functions, and that the code does as they say. -/
import Derived.Test.YtlpelkfcmeapiaaTys
import Derived.Test.YtlpelkfcmeapiaaDat
import Derived.Test.YtlpelkfcmeapiaaGflow
import Derived.Test.YtlpelkfcmeapiaaGkeep
import Derived.Test.YtlpelkfcmeapiaaGmost
import Derived.Test.YtlpelkfcmeapiaaGslices
namespace Go.Proofs.Ytlpelkfcmeapiaa
open Go Go.Proofs.Ytlpelkfcmeapiaa.Sx
set_option linter.unusedVariables false
set_option linter.unusedSimpArgs false
def weirkeep_FlowOwn_B1 (r37 : (List Piece)) : Nat → Unit → Option (Unit) := fun k46 _ =>
 (weirkeep_spoil_int_F ((r37.getD k46 El.d).arcs) (-1)).bind fun _ =>
 some ()
def weirkeep_FlowOwn_F (n : Net) (f : (List Int)) : Option (Bool) :=
 (weirkeep_weir_F).bind fun r2 =>
 (most_More_F r2 ([0, 0, 0, 0, 0] : List Int)).bind fun (r6, r8, r9) =>
 if r9 ≠ 0 then
  some false
 else
  if ((r6.length : Nat) : Int) ≠ 5 then
   some false
  else
   (slices_Clone_int_F f).bind fun r14 =>
   (slices_Clone_Arc_F n.as).bind fun r17 =>
   (flow_Split_F n f).bind fun (r20, r23, r26) =>
   if r26 ≠ 0 then
    (slices_Equal_int_F f r14).bind fun r29 =>
    some r29
   else
    (most_More_F n f).bind fun (r31, r33, r34) =>
    (slices_Concat_Piece_F ([r20, r23] : List (List Piece))).bind fun r37 =>
    (forN (weirkeep_FlowOwn_B1 r37) r37.length 0 ()).bind fun _ =>
    (weirkeep_spoil_int_F r31 (-1)).bind fun () =>
    (slices_Equal_int_F f r14).bind fun r52 =>
    if (!r52) = true then
     some false
    else
     (slices_Equal_Arc_F n.as r17).bind fun r55 =>
     if (!r55) = true then
      some false
     else
      (most_More_F n f).bind fun (r58, r60, r61) =>
      if r34 = r61 then
       if r33 = r60 then
        (slices_Contains_int_F r58 (-1)).bind fun r65 =>
        some (!r65)
       else
        some false
      else
       some false
def weirkeep_FlowOwn_P (out : Bool) (d : D) (H : List HL) : Prop := d = .v (.bool out) ∧ H = []
theorem weirkeep_FlowOwn_I (out : Bool) : IndepP (weirkeep_FlowOwn_P out) := IndepP.of (by rintro _ _ ⟨rfl, rfl⟩; exact ⟨inferInstance, inferInstance⟩)
set_option maxRecDepth 100000 in
set_option maxHeartbeats 4000000 in
theorem weirkeep_FlowOwn_spec (n : Net) (f : (List Int)) {out : Bool} (H : weirkeep_FlowOwn_F n f = some out) : Does Try.prog 5 [.ag 4 (nth [.v (.int .i64 n.n), .v (.int .i64 n.s), .v (.int .i64 n.t), slD n.as]), slD f] [] (weirkeep_FlowOwn_P out) := by
 unfold weirkeep_FlowOwn_F at H
 refine Does.intro Try.func5 rfl Try.ntmps5 rfl fun w0 I0 => ?_
 refine GoC.seq ?_
 refine GoC.region ?_
 refine GoO.effB (ef_boxAg rfl rfl) (fun β1 => ?_)
 refine GoO.pure (ps_assign rfl rfl) ?_
 refine GoO.nil ?_
 refine GoK.code ?_
 refine GoC.seq ?_
 refine GoC.seq ?_
 refine GoC.region ?_
 have hb := bind_l H; clear H
 obtain ⟨r2, e4, H⟩ := hb
 refine GoO.effC (ef_call rfl (Take.nil _) (Take.nil _) (weirkeep_weir_spec e4) (LendL.nil) rfl (weirkeep_weir_I (r2))) (fun rr HH hp => ?_)
 obtain ⟨β3, rfl, rfl⟩ := hp
 refine GoO.effB (ef_buildSlice (row ([0, 0, 0, 0, 0] : List Int)) rfl (Parts.cons _ _ _ _ _ _ _ _ ⟨rfl, rfl⟩ (Part.one _ rfl rfl) rfl rfl (Parts.cons _ _ _ _ _ _ _ _ ⟨rfl, rfl⟩ (Part.one _ rfl rfl) rfl rfl (Parts.cons _ _ _ _ _ _ _ _ ⟨rfl, rfl⟩ (Part.one _ rfl rfl) rfl rfl (Parts.cons _ _ _ _ _ _ _ _ ⟨rfl, rfl⟩ (Part.one _ rfl rfl) rfl rfl (Parts.cons _ _ _ _ _ _ _ _ ⟨rfl, rfl⟩ (Part.one _ rfl rfl) rfl rfl (Parts.nil _)))))) rfl rfl rfl rfl) (fun β5 => ?_)
 have hb := bind_l H; clear H
 obtain ⟨⟨r6, r8, r9⟩, e10, H⟩ := hb
 refine GoO.effC (ef_call rfl (Take.nil _) (Take.cons _ _ _ _ _ Rem.p1 (Take.cons _ _ _ _ _ Rem.p0 (Take.nil _))) (most_More_spec r2 ([0, 0, 0, 0, 0] : List Int) e10) (LendL.cons (Lend.agA ⟨⟨⟨⟨trivial, Lend.refl _ _⟩, Lend.refl _ _⟩, Lend.refl _ _⟩, Lend.all' At.p0 (by first | rfl | omega | (simp only [subl_length, cpl_length, List.length_set, List.length_append, List.length_cons, List.length_nil, List.length_replicate, row_len] <;> first | rfl | omega)) rfl⟩) (LendL.cons (Lend.all' At.p1 (by first | rfl | omega | (simp only [subl_length, cpl_length, List.length_set, List.length_append, List.length_cons, List.length_nil, List.length_replicate, row_len] <;> first | rfl | omega)) rfl) (LendL.nil))) rfl (most_More_I (r6, r8, r9))) (fun rr HH hp => ?_)
 obtain ⟨β7, rfl, rfl⟩ := hp
 refine GoO.pure (ps_move rfl rfl) ?_
 refine GoO.pure (ps_extract rfl rfl rfl) ?_
 refine GoO.pure (ps_extract rfl rfl rfl) ?_
 refine GoO.pure (ps_extract rfl rfl rfl) ?_
 refine GoO.pure (ps_assign rfl rfl) ?_
 refine GoO.pure (ps_assign rfl rfl) ?_
 refine GoO.pure (ps_assign rfl rfl) ?_
 refine GoO.nil ?_
 refine GoK.code ?_
 refine GoC.seq ?_
 refine GoC.region ?_
 refine GoO.pure (ps_move rfl rfl) ?_
 refine GoO.pure (ps_neq rfl rfl rfl) ?_
 refine GoO.pure (ps_move rfl rfl) ?_
 refine GoO.guardE rfl rfl rfl rfl (fun h11 => ?_) (fun h11 => ?_)
 replace H := ite_f h11 H
 refine GoO.pure (ps_move rfl rfl) ?_
 refine GoO.guardT rfl rfl rfl ?_
 refine GoO.pure (ps_len rfl (by constructor) rfl) ?_
 refine GoO.lenLe (n := r6.length) (x := .tmp 31) rfl (by constructor) own_lenLe (fun ml12 => ?_)
 refine GoO.guardT rfl rfl rfl ?_
 refine GoO.pure (ps_neq rfl rfl rfl) ?_
 refine GoO.pure (ps_pickF rfl rfl rfl) ?_
 refine GoO.nil ?_
 refine GoK.code ?_
 refine GoC.condD rfl (fun h13 => ?_) (fun h13 => ?_)
 replace H := ite_t h13 H
 refine GoC.seq ?_
 refine GoC.region ?_
 refine GoO.pure (ps_assign rfl rfl) ?_
 refine GoO.nil ?_
 refine GoK.code ?_
 obtain rfl := Option.some.inj H
 exact GoC.retL (ds := [.v (.bool false)]) Try.results5 (ResL.cons (ResD.tmp rfl) (ResL.nil)) (Take.nil _) ⟨rfl, rfl⟩
 replace H := ite_f h13 H
 refine GoC.skip ?_
 refine GoK.code ?_
 refine GoC.seq ?_
 refine GoC.drawA (.q 0 (.q 2 (.q 3 (.one 1 (.one 4 (.q 5 (.q 6 (.done)))))))) follows (by kernel_rfl) ?_
 refine GoP.qN rfl (ps_move rfl rfl) ?_
 refine GoP.qN rfl (ps_fieldAddr rfl rfl) ?_
 refine GoP.qN rfl (ps_load rfl At.p3 At.p3 Nat.zero_lt_one rfl rfl) ?_
 have hb := bind_l H; clear H
 obtain ⟨r14, e16, H⟩ := hb
 refine GoP.oneC rfl trivial (ef_call rfl (Take.nil _) (Take.nil _) (slices_Clone_int_spec f e16) (LendL.cons (Lend.refl _ _) (LendL.nil)) rfl (slices_Clone_int_I (r14))) (Take.cons _ _ _ _ _ Rem.p0 (Take.cons _ _ _ _ _ Rem.p0 (Take.cons _ _ _ _ _ Rem.p0 (Take.cons _ _ _ _ _ Rem.p0 (Take.nil _))))) (fun rr HH hp => ?_)
 obtain ⟨β15, rfl, rfl⟩ := hp
 have hb := bind_l H; clear H
 obtain ⟨r17, e19, H⟩ := hb
 refine GoP.oneC rfl trivial (ef_call rfl (Take.nil _) (Take.nil _) (slices_Clone_Arc_spec n.as e19) (LendL.cons (Lend.refl _ _) (LendL.nil)) rfl (slices_Clone_Arc_I (r17))) (Take.cons _ _ _ _ _ Rem.p1 (Take.cons _ _ _ _ _ Rem.p1 (Take.cons _ _ _ _ _ Rem.p1 (Take.cons _ _ _ _ _ Rem.p1 (Take.nil _))))) (fun rr HH hp => ?_)
 obtain ⟨β18, rfl, rfl⟩ := hp
 refine GoP.qN rfl (ps_assign rfl rfl) ?_
 refine GoP.qN rfl (ps_assign rfl rfl) ?_
 refine GoP.done ?_
 refine GoK.code ?_
 refine GoC.seq ?_
 refine GoC.region ?_
 refine GoO.pure (ps_loadAg rfl At.p5 At.p5 Nat.zero_lt_one rfl rfl) ?_
 refine GoO.pure (ps_move rfl rfl) ?_
 have hb := bind_l H; clear H
 obtain ⟨⟨r20, r23, r26⟩, e27, H⟩ := hb
 refine GoO.effC (ef_call rfl (Take.nil _) (Take.nil _) (flow_Split_spec n f e27) (LendL.cons (Lend.agA ⟨⟨⟨⟨trivial, Lend.refl _ _⟩, Lend.refl _ _⟩, Lend.refl _ _⟩, Lend.refl _ _⟩) (LendL.cons (Lend.refl _ _) (LendL.nil))) rfl (flow_Split_I (r20, r23, r26))) (fun rr HH hp => ?_)
 obtain ⟨β21, β24, Γ22, Γ25, rfl, rfl⟩ := hp
 refine GoO.le (Le.reH At.p1 (HLe.forget (α := Piece))) ?_
 refine GoO.le (Le.reH At.p3 (HLe.forget (α := Piece))) ?_
 refine GoO.pure (ps_move rfl rfl) ?_
 refine GoO.pure (ps_extract rfl rfl rfl) ?_
 refine GoO.pure (ps_extract rfl rfl rfl) ?_
 refine GoO.pure (ps_extract rfl rfl rfl) ?_
 refine GoO.pure (ps_assign rfl rfl) ?_
 refine GoO.pure (ps_assign rfl rfl) ?_
 refine GoO.pure (ps_assign rfl rfl) ?_
 refine GoO.nil ?_
 refine GoK.code ?_
 refine GoC.seq ?_
 refine GoC.seq ?_
 refine GoC.region ?_
 refine GoO.pure (ps_move rfl rfl) ?_
 refine GoO.pure (ps_neq rfl rfl rfl) ?_
 refine GoO.nil ?_
 refine GoK.code ?_
 refine GoC.condD rfl (fun h28 => ?_) (fun h28 => ?_)
 replace H := ite_t h28 H
 refine GoC.seq ?_
 refine GoC.region ?_
 refine GoO.pure (ps_move rfl rfl) ?_
 refine GoO.pure (ps_move rfl rfl) ?_
 have hb := bind_l H; clear H
 obtain ⟨r29, e30, H⟩ := hb
 refine GoO.effC (ef_call rfl (Take.nil _) (Take.cons _ _ _ _ _ Rem.p5 (Take.nil _)) (slices_Equal_int_spec f r14 e30) (LendL.cons (Lend.refl _ _) (LendL.cons (Lend.all' At.p0 (by first | rfl | omega | (simp only [subl_length, cpl_length, List.length_set, List.length_append, List.length_cons, List.length_nil, List.length_replicate, row_len] <;> first | rfl | omega)) rfl) (LendL.nil))) rfl (slices_Equal_int_I (r29))) (fun rr HH hp => ?_)
 obtain ⟨rfl, rfl⟩ := hp
 refine GoO.pure (ps_assign rfl rfl) ?_
 refine GoO.nil ?_
 refine GoK.code ?_
 obtain rfl := Option.some.inj H
 exact GoC.retL (ds := [.v (.bool r29)]) Try.results5 (ResL.cons (ResD.tmp rfl) (ResL.nil)) (Take.nil _) ⟨rfl, rfl⟩
 replace H := ite_f h28 H
 refine GoC.skip ?_
 refine GoK.code ?_
 refine GoC.seq ?_
 refine GoC.region ?_
 refine GoO.pure (ps_loadAg rfl At.p9 At.p9 Nat.zero_lt_one rfl rfl) ?_
 refine GoO.pure (ps_move rfl rfl) ?_
 have hb := bind_l H; clear H
 obtain ⟨⟨r31, r33, r34⟩, e35, H⟩ := hb
 refine GoO.effC (ef_call rfl (Take.nil _) (Take.nil _) (most_More_spec n f e35) (LendL.cons (Lend.agA ⟨⟨⟨⟨trivial, Lend.refl _ _⟩, Lend.refl _ _⟩, Lend.refl _ _⟩, Lend.refl _ _⟩) (LendL.cons (Lend.refl _ _) (LendL.nil))) rfl (most_More_I (r31, r33, r34))) (fun rr HH hp => ?_)
 obtain ⟨β32, rfl, rfl⟩ := hp
 refine GoO.pure (ps_move rfl rfl) ?_
 refine GoO.pure (ps_extract rfl rfl rfl) ?_
 refine GoO.pure (ps_extract rfl rfl rfl) ?_
 refine GoO.pure (ps_extract rfl rfl rfl) ?_
 refine GoO.pure (ps_assign rfl rfl) ?_
 refine GoO.pure (ps_assign rfl rfl) ?_
 refine GoO.pure (ps_assign rfl rfl) ?_
 refine GoO.nil ?_
 refine GoK.code ?_
 refine GoC.seq ?_
 refine GoC.seq ?_
 refine GoC.region ?_
 refine GoO.pure (ps_move rfl rfl) ?_
 refine GoO.pure (ps_move rfl rfl) ?_
 refine GoO.le (Le.reH At.p1 HLe.tagB) ?_
 refine GoO.freezeJ (j := 59) rfl Rem.p1 (Lend.all' (d := slD (tagB Γ22 r20)) At.p0 (tagB_len _ _).symm rfl) no_fps ?_
 refine GoO.le (Le.reH At.p2 HLe.tagB) ?_
 refine GoO.freezeJ (j := 60) rfl Rem.p2 (Lend.all' (d := slD (tagB Γ25 r23)) At.p0 (tagB_len _ _).symm rfl) no_fps ?_
 refine GoO.effB (ef_buildSlice (row ([(tagB Γ22 r20), (tagB Γ25 r23)] : List (List PieceB))) rfl (Parts.cons _ _ _ _ _ _ _ _ ⟨rfl, rfl⟩ (Part.one _ rfl rfl) rfl rfl (Parts.cons _ _ _ _ _ _ _ _ ⟨rfl, rfl⟩ (Part.one _ rfl rfl) rfl rfl (Parts.nil _))) rfl rfl rfl rfl) (fun β36 => ?_)
 have hb := bind_l H; clear H
 obtain ⟨r37, e38, H⟩ := hb
 obtain ⟨hc39, hB40⟩ := concat_tag Γ22 Γ25 e38
 refine GoO.callF rfl (Take.nil _) (Take.cons _ _ _ _ _ Rem.p0 (Take.nil _)) (slices_Concat_PieceB_spec [(tagB Γ22 r20), (tagB Γ25 r23)] hB40) (LendL.cons (Lend.all' At.p0 rfl rfl) (LendL.nil)) rfl no_fps (fun rr HH hp => ?_)
 obtain ⟨β41, rfl, rfl⟩ := hp
 refine GoO.le (Le.re 62 rfl (DLe.len (show ((tagB Γ22 r20) ++ (tagB Γ25 r23)).length = r37.length by rw [hc39, List.length_append, List.length_append, tagB_len, tagB_len]))) ?_
 refine GoO.le (Le.reH At.p0 (HLe.untagB hc39)) ?_
 refine GoO.le (Le.catRaw (k := r37.length) Rem.p2 Rem.p2 (by rw [hc39, List.length_append])) ?_
 refine GoO.pure (ps_len rfl (by constructor) rfl) ?_
 refine GoO.lenLe (n := r37.length) (x := .tmp 62) rfl (by constructor) own_lenLe (fun ml42 => ?_)
 refine GoO.pure (ps_move rfl rfl) ?_
 refine GoO.nil ?_
 refine GoK.code ?_
 have hb := bind_l H; clear H
 obtain ⟨⟨⟩, hl50, HK43⟩ := hb
 refine GoC.blockJ [(1, slD f), (2, .ptr β1 4 0 0), (8, .own β15 1 0 r14.length), (9, .own β18 3 0 r17.length), (13, .own β32 1 0 r31.length), (14, .v (.int .i64 r33)), (15, .v (.int .i64 r34))] [rawH 3 (catB Γ22 r20.length Γ25) 1 r37.length, .one β41 50 2 (gridS (α := Piece) (catB Γ22 r20.length Γ25) r37), .one β32 3 1 (row r31), .one β18 29 3 (row r17), .one β15 3 1 (row r14), .one β7 3 1 (row r6), .one β5 3 1 (row ([0, 0, 0, 0, 0] : List Int)), .one β3 29 3 (row r2.as), .one β1 62 4 (st1 (nth [.v (.int .i64 n.n), .v (.int .i64 n.s), .v (.int .i64 n.t), slD n.as]))] (fun v h => v = [] ∧ h = []) ?_ ?_
 refine GoC.loopJ [(1, _), (2, _), (8, _), (9, _), (13, _), (14, _), (15, _), (62, _), (63, _)] [rawH 3 (catB Γ22 r20.length Γ25) 1 r37.length, .one β41 50 2 (gridS (α := Piece) (catB Γ22 r20.length Γ25) r37), .one β32 3 1 (row r31), .one β18 29 3 (row r17), .one β15 3 1 (row r14), .one β7 3 1 (row r6), .one β5 3 1 (row ([0, 0, 0, 0, 0] : List Int)), .one β3 29 3 (row r2.as), .one β1 62 4 (st1 (nth [.v (.int .i64 n.n), .v (.int .i64 n.s), .v (.int .i64 n.t), slD n.as]))] (fun mQ v h => ∃ (k46 : Nat), (k46 + mQ = r37.length ∧ forN (weirkeep_FlowOwn_B1 r37) mQ k46 () = some ()) ∧ v = [(64, .v (.int .i64 ((k46 : Nat) : Int)))] ∧ h = []) r37.length ⟨_, ⟨by omega, hl50⟩, rfl, rfl⟩ (EnvD.eq rfl (EnvD.eq rfl (EnvD.eq rfl (EnvD.eq rfl (EnvD.eq rfl (EnvD.eq rfl (EnvD.eq rfl (EnvD.eq rfl (EnvD.eq rfl (EnvD.eq rfl (EnvD.nil))))))))))) (TkD.cons _ _ _ _ _ Rem.p0 (HLe.refl _) (TkD.cons _ _ _ _ _ Rem.p0 (HLe.refl _) (TkD.cons _ _ _ _ _ Rem.p0 (HLe.refl _) (TkD.cons _ _ _ _ _ Rem.p0 (HLe.refl _) (TkD.cons _ _ _ _ _ Rem.p0 (HLe.refl _) (TkD.cons _ _ _ _ _ Rem.p0 (HLe.refl _) (TkD.cons _ _ _ _ _ Rem.p0 (HLe.refl _) (TkD.cons _ _ _ _ _ Rem.p0 (HLe.refl _) (TkD.cons _ _ _ _ _ Rem.p0 (HLe.st ⟨⟨⟨⟨trivial, DLe.refl _⟩, DLe.refl _⟩, DLe.refl _⟩, DLe.refl _⟩) (TkD.nil _)))))))))) ?_
 rintro m47 v h ⟨k46, ⟨hkk46, hF44⟩, rfl, rfl⟩
 refine GoC.seq ?_
 refine GoC.region ?_
 refine GoO.pure (ps_lss rfl rfl rfl) ?_
 refine GoO.nil ?_
 refine GoK.code ?_
 refine GoC.seq ?_
 refine GoC.condD rfl (fun (hk46 : (k46 : Int) < ((r37.length : Nat) : Int)) => ?_) (fun (hk46 : ¬ (k46 : Int) < ((r37.length : Nat) : Int)) => ?_)
 obtain ⟨m47', rfl⟩ : ∃ x, m47 = x + 1 := ⟨m47 - 1, by omega⟩
 have hb := bind_l hF44; clear hF44
 obtain ⟨qrm47, H, hF44⟩ := hb
 have hnk46 : k46 < r37.length := by omega
 have hIk46 : InI ((k46 : Int) + 1) := inI_len hk46 ml42
 refine GoC.skip ?_
 refine GoK.code ?_
 refine GoC.seq ?_
 refine GoC.block ?_
 refine GoC.seq ?_
 refine GoC.region ?_
 refine GoO.pure (ps_indexAddr0N rfl rfl hnk46 rfl) ?_
 refine GoO.pure (ps_loadAg rfl At.p1 At.p1 hnk46 rfl rfl) ?_
 refine GoO.effB (ef_alloc rfl) (fun β48 => ?_)
 refine GoO.eff1 (ef_storeAg rfl rfl At.p0 upd_whole Nat.zero_lt_one rfl) ?_
 refine GoO.nil ?_
 refine GoK.code ?_
 refine GoC.region ?_
 refine GoO.pure (ps_fieldAddr rfl rfl) ?_
 refine GoO.pure (ps_load rfl At.p0 At.p0 Nat.zero_lt_one rfl rfl) ?_
 have hb := bind_l H; clear H
 obtain ⟨_, e49, H⟩ := hb
 refine GoO.effC (ef_call rfl (Take.cons _ _ _ _ _ Rem.p1 (Take.nil _)) (Take.nil _) (Does.inMany hnk46 (weirkeep_spoil_int_specR (((r37.getD k46 El.d).arcs).length) (-1) ((catB Γ22 r20.length Γ25) k46))) (LendL.cons (Lend.refl _ _) (LendL.cons (Lend.refl _ _) (LendL.nil))) rfl (IndepP.of (by rintro _ _ ⟨rfl, rfl⟩; exact ⟨inferInstance, inferInstance⟩))) (fun rr HH hp => ?_)
 obtain ⟨rfl, rfl⟩ := hp
 refine GoO.nil ?_
 refine GoK.blk ?_
 refine GoK.code ?_
 refine GoC.region ?_
 refine GoO.pure (ps_add rfl rfl rfl hIk46) ?_
 refine GoO.pure (ps_move rfl rfl) ?_
 refine GoO.nil ?_
 obtain rfl := Option.some.inj H
 exact GoK.againJ m47' (by omega) ⟨_, ⟨by omega, hF44⟩, rfl, rfl⟩ (EnvD.eq rfl (EnvD.eq rfl (EnvD.eq rfl (EnvD.eq rfl (EnvD.eq rfl (EnvD.eq rfl (EnvD.eq rfl (EnvD.eq rfl (EnvD.eq rfl (EnvD.eq rfl (EnvD.nil))))))))))) (TkD.cons _ _ _ _ _ Rem.p0 (HLe.refl _) (TkD.cons _ _ _ _ _ Rem.p1 (HLe.refl _) (TkD.cons _ _ _ _ _ Rem.p1 (HLe.refl _) (TkD.cons _ _ _ _ _ Rem.p1 (HLe.refl _) (TkD.cons _ _ _ _ _ Rem.p1 (HLe.refl _) (TkD.cons _ _ _ _ _ Rem.p1 (HLe.refl _) (TkD.cons _ _ _ _ _ Rem.p1 (HLe.refl _) (TkD.cons _ _ _ _ _ Rem.p1 (HLe.refl _) (TkD.cons _ _ _ _ _ Rem.p1 (HLe.st ⟨⟨⟨⟨trivial, DLe.refl _⟩, DLe.refl _⟩, DLe.refl _⟩, DLe.refl _⟩) (TkD.nil _))))))))))
 obtain rfl : m47 = 0 := by omega
 refine GoC.exit rfl ?_
 cases hF44
 exact GoK.meet ⟨rfl, rfl⟩ (EnvD.eq rfl (EnvD.eq rfl (EnvD.eq rfl (EnvD.eq rfl (EnvD.eq rfl (EnvD.eq rfl (EnvD.eq rfl (EnvD.nil)))))))) (TkD.cons _ _ _ _ _ Rem.p0 (HLe.refl _) (TkD.cons _ _ _ _ _ Rem.p0 (HLe.refl _) (TkD.cons _ _ _ _ _ Rem.p0 (HLe.refl _) (TkD.cons _ _ _ _ _ Rem.p0 (HLe.refl _) (TkD.cons _ _ _ _ _ Rem.p0 (HLe.refl _) (TkD.cons _ _ _ _ _ Rem.p0 (HLe.refl _) (TkD.cons _ _ _ _ _ Rem.p0 (HLe.refl _) (TkD.cons _ _ _ _ _ Rem.p0 (HLe.refl _) (TkD.cons _ _ _ _ _ Rem.p0 (HLe.st ⟨⟨⟨⟨trivial, DLe.refl _⟩, DLe.refl _⟩, DLe.refl _⟩, DLe.refl _⟩) (TkD.nil _))))))))))
 rintro v h ⟨rfl, rfl⟩
 have H := HK43; clear HK43
 refine GoK.code ?_
 refine GoC.seq ?_
 refine GoC.region ?_
 refine GoO.pure (ps_move rfl rfl) ?_
 have hb := bind_l H; clear H
 obtain ⟨⟨⟩, e51, H⟩ := hb
 refine GoO.effC (ef_call rfl (Take.cons _ _ _ _ _ Rem.p2 (Take.nil _)) (Take.nil _) (weirkeep_spoil_int_spec r31 (-1) β32 e51) (LendL.cons (Lend.refl _ _) (LendL.cons (Lend.refl _ _) (LendL.nil))) rfl (weirkeep_spoil_int_I () β32)) (fun rr HH hp => ?_)
 obtain ⟨rfl, rfl⟩ := hp
 refine GoO.nil ?_
 refine GoK.code ?_
 refine GoC.seq ?_
 refine GoC.seq ?_
 refine GoC.region ?_
 refine GoO.pure (ps_move rfl rfl) ?_
 refine GoO.pure (ps_move rfl rfl) ?_
 have hb := bind_l H; clear H
 obtain ⟨r52, e53, H⟩ := hb
 refine GoO.effC (ef_call rfl (Take.nil _) (Take.cons _ _ _ _ _ Rem.p3 (Take.nil _)) (slices_Equal_int_spec f r14 e53) (LendL.cons (Lend.refl _ _) (LendL.cons (Lend.all' At.p0 (by first | rfl | omega | (simp only [subl_length, cpl_length, List.length_set, List.length_append, List.length_cons, List.length_nil, List.length_replicate, row_len] <;> first | rfl | omega)) rfl) (LendL.nil))) rfl (slices_Equal_int_I (r52))) (fun rr HH hp => ?_)
 obtain ⟨rfl, rfl⟩ := hp
 refine GoO.pure (ps_not rfl rfl) ?_
 refine GoO.pure (ps_move rfl rfl) ?_
 refine GoO.guard rfl rfl rfl rfl (fun h54 => ?_) (fun h54 => ?_)
 replace H := itb_f h54 H
 refine GoO.pure (ps_fieldAddr rfl rfl) ?_
 refine GoO.guardT rfl rfl rfl ?_
 refine GoO.pure (ps_load rfl At.p7 At.p7 Nat.zero_lt_one rfl rfl) ?_
 refine GoO.guardT rfl rfl rfl ?_
 refine GoO.pure (ps_move rfl rfl) ?_
 refine GoO.guardT rfl rfl rfl ?_
 have hb := bind_l H; clear H
 obtain ⟨r55, e56, H⟩ := hb
 refine GoO.effC (ef_call rfl (Take.nil _) (Take.cons _ _ _ _ _ Rem.p2 (Take.nil _)) (slices_Equal_Arc_spec n.as r17 e56) (LendL.cons (Lend.refl _ _) (LendL.cons (Lend.all' At.p0 (by first | rfl | omega | (simp only [subl_length, cpl_length, List.length_set, List.length_append, List.length_cons, List.length_nil, List.length_replicate, row_len] <;> first | rfl | omega)) rfl) (LendL.nil))) rfl (slices_Equal_Arc_I (r55))) (fun rr HH hp => ?_)
 obtain ⟨rfl, rfl⟩ := hp
 refine GoO.guardT rfl rfl rfl ?_
 refine GoO.pure (ps_not rfl rfl) ?_
 refine GoO.pure (ps_pickF rfl rfl rfl) ?_
 refine GoO.nil ?_
 refine GoK.code ?_
 refine GoC.cond rfl (fun h57 => ?_) (fun h57 => ?_)
 replace H := itb_t h57 H
 refine GoC.seq ?_
 refine GoC.region ?_
 refine GoO.pure (ps_assign rfl rfl) ?_
 refine GoO.nil ?_
 refine GoK.code ?_
 obtain rfl := Option.some.inj H
 exact GoC.retL (ds := [.v (.bool false)]) Try.results5 (ResL.cons (ResD.tmp rfl) (ResL.nil)) (Take.nil _) ⟨rfl, rfl⟩
 replace H := itb_f h57 H
 refine GoC.skip ?_
 refine GoK.code ?_
 refine GoC.seq ?_
 refine GoC.region ?_
 refine GoO.pure (ps_loadAg rfl At.p7 At.p7 Nat.zero_lt_one rfl rfl) ?_
 refine GoO.pure (ps_move rfl rfl) ?_
 have hb := bind_l H; clear H
 obtain ⟨⟨r58, r60, r61⟩, e62, H⟩ := hb
 refine GoO.effC (ef_call rfl (Take.nil _) (Take.nil _) (most_More_spec n f e62) (LendL.cons (Lend.agA ⟨⟨⟨⟨trivial, Lend.refl _ _⟩, Lend.refl _ _⟩, Lend.refl _ _⟩, Lend.refl _ _⟩) (LendL.cons (Lend.refl _ _) (LendL.nil))) rfl (most_More_I (r58, r60, r61))) (fun rr HH hp => ?_)
 obtain ⟨β59, rfl, rfl⟩ := hp
 refine GoO.pure (ps_move rfl rfl) ?_
 refine GoO.pure (ps_extract rfl rfl rfl) ?_
 refine GoO.pure (ps_extract rfl rfl rfl) ?_
 refine GoO.pure (ps_extract rfl rfl rfl) ?_
 refine GoO.pure (ps_assign rfl rfl) ?_
 refine GoO.pure (ps_assign rfl rfl) ?_
 refine GoO.pure (ps_assign rfl rfl) ?_
 refine GoO.nil ?_
 refine GoK.code ?_
 refine GoC.seq ?_
 refine GoC.region ?_
 refine GoO.pure (ps_move rfl rfl) ?_
 refine GoO.pure (ps_move rfl rfl) ?_
 refine GoO.pure (ps_eql rfl rfl rfl) ?_
 refine GoO.pure (ps_move rfl rfl) ?_
 refine GoO.guardD rfl rfl rfl rfl (fun h63 => ?_) (fun h63 => ?_)
 replace H := ite_t h63 H
 refine GoO.pure (ps_move rfl rfl) ?_
 refine GoO.guardT rfl rfl rfl ?_
 refine GoO.pure (ps_move rfl rfl) ?_
 refine GoO.guardT rfl rfl rfl ?_
 refine GoO.pure (ps_eql rfl rfl rfl) ?_
 refine GoO.pure (ps_pickT rfl rfl rfl) ?_
 refine GoO.pure (ps_move rfl rfl) ?_
 refine GoO.guardD rfl rfl rfl rfl (fun h64 => ?_) (fun h64 => ?_)
 replace H := ite_t h64 H
 refine GoO.pure (ps_move rfl rfl) ?_
 refine GoO.guardT rfl rfl rfl ?_
 have hb := bind_l H; clear H
 obtain ⟨r65, e66, H⟩ := hb
 refine GoO.effC (ef_call rfl (Take.nil _) (Take.cons _ _ _ _ _ Rem.p0 (Take.nil _)) (slices_Contains_int_spec r58 (-1) e66) (LendL.cons (Lend.all' At.p0 (by first | rfl | omega | (simp only [subl_length, cpl_length, List.length_set, List.length_append, List.length_cons, List.length_nil, List.length_replicate, row_len] <;> first | rfl | omega)) rfl) (LendL.cons (Lend.refl _ _) (LendL.nil))) rfl (slices_Contains_int_I (r65))) (fun rr HH hp => ?_)
 obtain ⟨rfl, rfl⟩ := hp
 refine GoO.guardT rfl rfl rfl ?_
 refine GoO.pure (ps_not rfl rfl) ?_
 refine GoO.pure (ps_pickT rfl rfl rfl) ?_
 refine GoO.pure (ps_assign rfl rfl) ?_
 refine GoO.nil ?_
 refine GoK.code ?_
 obtain rfl := Option.some.inj H
 exact GoC.retL (ds := [.v (.bool (!r65))]) Try.results5 (ResL.cons (ResD.tmp rfl) (ResL.nil)) (Take.nil _) ⟨rfl, rfl⟩
 replace H := ite_f h64 H
 refine GoO.guardF rfl rfl rfl rfl ?_
 refine GoO.guardF rfl rfl rfl rfl ?_
 refine GoO.pure (ps_pickF rfl rfl rfl) ?_
 refine GoO.pure (ps_assign rfl rfl) ?_
 refine GoO.nil ?_
 refine GoK.code ?_
 obtain rfl := Option.some.inj H
 exact GoC.retL (ds := [.v (.bool false)]) Try.results5 (ResL.cons (ResD.tmp rfl) (ResL.nil)) (Take.nil _) ⟨rfl, rfl⟩
 replace H := ite_f h63 H
 refine GoO.guardF rfl rfl rfl rfl ?_
 refine GoO.guardF rfl rfl rfl rfl ?_
 refine GoO.pure (ps_pickF rfl rfl rfl) ?_
 refine GoO.pure (ps_move rfl rfl) ?_
 refine GoO.guardF rfl rfl rfl rfl ?_
 refine GoO.guardF rfl rfl rfl rfl ?_
 refine GoO.guardF rfl rfl rfl rfl ?_
 refine GoO.pure (ps_pickF rfl rfl rfl) ?_
 refine GoO.pure (ps_assign rfl rfl) ?_
 refine GoO.nil ?_
 refine GoK.code ?_
 obtain rfl := Option.some.inj H
 exact GoC.retL (ds := [.v (.bool false)]) Try.results5 (ResL.cons (ResD.tmp rfl) (ResL.nil)) (Take.nil _) ⟨rfl, rfl⟩
 replace H := itb_t h54 H
 refine GoO.guardF rfl rfl rfl rfl ?_
 refine GoO.guardF rfl rfl rfl rfl ?_
 refine GoO.guardF rfl rfl rfl rfl ?_
 refine GoO.guardF rfl rfl rfl rfl ?_
 refine GoO.pure (ps_pickT rfl rfl rfl) ?_
 refine GoO.nil ?_
 refine GoK.code ?_
 refine GoC.condT rfl ?_
 refine GoC.seq ?_
 refine GoC.region ?_
 refine GoO.pure (ps_assign rfl rfl) ?_
 refine GoO.nil ?_
 refine GoK.code ?_
 obtain rfl := Option.some.inj H
 exact GoC.retL (ds := [.v (.bool false)]) Try.results5 (ResL.cons (ResD.tmp rfl) (ResL.nil)) (Take.nil _) ⟨rfl, rfl⟩
 replace H := ite_t h11 H
 refine GoO.guardF rfl rfl rfl rfl ?_
 refine GoO.guardF rfl rfl rfl rfl ?_
 refine GoO.pure (ps_pickT rfl rfl rfl) ?_
 refine GoO.nil ?_
 refine GoK.code ?_
 refine GoC.condT rfl ?_
 refine GoC.seq ?_
 refine GoC.region ?_
 refine GoO.pure (ps_assign rfl rfl) ?_
 refine GoO.nil ?_
 refine GoK.code ?_
 obtain rfl := Option.some.inj H
 exact GoC.retL (ds := [.v (.bool false)]) Try.results5 (ResL.cons (ResD.tmp rfl) (ResL.nil)) (Take.nil _) ⟨rfl, rfl⟩

end Go.Proofs.Ytlpelkfcmeapiaa
