/- The functions level.levels, level.send, level.Of, told as plain functions, and that the code does as they say. -/
import Derived.Test.YtdpkdicciclobaaTys
import Derived.Test.YtdpkdicciclobaaDat
import Derived.Test.YtdpkdicciclobaaGgraph
namespace Go.Proofs.Ytdpkdicciclobaa
open Go Go.Proofs.Ytdpkdicciclobaa.Sx
set_option linter.unusedVariables false
set_option linter.unusedSimpArgs false
def level_levels_B1 : Nat → (Nat → Int) → Option ((Nat → Int)) := fun k6 f1 =>
 some (updF f1 k6 (-1))
def level_levels_B3 (r : Run) (l13 : (List Int)) : Nat → ((Nat → Int) × (List Int)) → Option ((Nat → Int) × (List Int)) := fun k32 (f24, l26) =>
 ((
  if ((r.n.as.getD k32 El.d).f) = (l13.getD 0 (0 : Int)) then
   ck (k32 < r.f.length) <|
   if (r.f.getD k32 (0 : Int)) < ((r.n.as.getD k32 El.d).c) then
    ck (0 ≤ (r.n.as.getD k32 El.d).t ∧ (r.n.as.getD k32 El.d).t < 12) <|
    if (f24 (((r.n.as.getD k32 El.d).t).toNat)) < 0 then
     ck (0 ≤ (l13.getD 0 (0 : Int)) ∧ (l13.getD 0 (0 : Int)) < 12) <|
     ck (InI ((f24 ((l13.getD 0 (0 : Int)).toNat)) + 1)) <|
     ck (l26.length + 1 ≤ 17592186044416) <|
     some ((updF f24 (((r.n.as.getD k32 El.d).t).toNat) ((f24 ((l13.getD 0 (0 : Int)).toNat)) + 1)), (l26 ++ ([(r.n.as.getD k32 El.d).t] : List Int)))
    else
     some (f24, l26)
   else
    some (f24, l26)
  else
   some (f24, l26)) : Option ((Nat → Int) × (List Int))).bind fun (f35, l37) =>
 if ((r.n.as.getD k32 El.d).t) = (l13.getD 0 (0 : Int)) then
  ck (k32 < r.f.length) <|
  if 0 < (r.f.getD k32 (0 : Int)) then
   ck (0 ≤ (r.n.as.getD k32 El.d).f ∧ (r.n.as.getD k32 El.d).f < 12) <|
   if (f35 (((r.n.as.getD k32 El.d).f).toNat)) < 0 then
    ck (0 ≤ (l13.getD 0 (0 : Int)) ∧ (l13.getD 0 (0 : Int)) < 12) <|
    ck (InI ((f35 ((l13.getD 0 (0 : Int)).toNat)) + 1)) <|
    ck (l37.length + 1 ≤ 17592186044416) <|
    some ((updF f35 (((r.n.as.getD k32 El.d).f).toNat) ((f35 ((l13.getD 0 (0 : Int)).toNat)) + 1)), (l37 ++ ([(r.n.as.getD k32 El.d).f] : List Int)))
   else
    some (f35, l37)
  else
   some (f35, l37)
 else
  some (f35, l37)
def level_levels_B2 (r : Run) : ((Nat → Int) × (List Int)) → Option (Ct ((Nat → Int) × (List Int)) (Bool × Run)) := fun (f11, l13) =>
 if 0 < ((l13.length : Nat) : Int) then
  ck (0 < l13.length) <|
  (forN (level_levels_B3 r l13) r.n.as.length 0 (f11, l13)).bind fun (f30, l31) =>
  ck (1 ≤ l31.length) <|
  some (.go (f30, (subl l31 1 (l31.length - 1))))
 else
  some (.brk (f11, l13))
def level_levels_F (r : Run) : Option (Bool × Run) :=
 (forN (level_levels_B1) 12 0 r.level).bind fun f5 =>
 ck (0 ≤ r.n.s ∧ r.n.s < 12) <|
 (loopC (level_levels_B2 r) 1000000 ((updF f5 r.n.s.toNat 0), ([r.n.s] : List Int))).bind fun q => match q with
 | .go (f17, l18) =>
  ck (0 ≤ r.n.t ∧ r.n.t < 12) <|
  some ((decide (0 ≤ (f17 r.n.t.toNat))), (⟨(⟨r.n.n, r.n.s, r.n.t, r.n.as⟩ : Net), r.f, f17⟩ : Run))
 | .ret x => some x
def level_levels_P (out : Bool × Run) (βr : BK) (βr_1 : BK) (κ1 : Net) (d : D) (H : List HL) : Prop := ∃ βx1 : BK, d = .v (.bool out.1) ∧ H = [.one βr 100 17 (arrC (α := Int) [.v (.int .i64 κ1.n), .v (.int .i64 κ1.s), .v (.int .i64 κ1.t), slD κ1.as, .own βx1 1 0 out.2.f.length] out.2.level), .one βx1 3 1 (row out.2.f)]
set_option maxRecDepth 100000 in
set_option maxHeartbeats 4000000 in
theorem level_levels_spec (r : Run) (βr : BK) (βr_1 : BK) {out : Bool × Run} (H : level_levels_F r = some out) : Does Try.prog 73 [.ptr βr 17 0 0] [.one βr 100 17 (arrC (α := Int) [.v (.int .i64 r.n.n), .v (.int .i64 r.n.s), .v (.int .i64 r.n.t), slD r.n.as, .own βr_1 1 0 r.f.length] r.level), .one βr_1 3 1 (row r.f)] (level_levels_P out βr βr_1 r.n) := by
 unfold level_levels_F at H
 refine Does.intro Try.func73 rfl Try.ntmps73 rfl fun w0 I0 => ?_
 refine GoC.seq ?_
 refine GoC.region ?_
 refine GoO.pure (ps_assign rfl rfl) ?_
 refine GoO.nil ?_
 refine GoK.code ?_
 refine GoC.seq ?_
 refine GoC.seq ?_
 refine GoC.region ?_
 refine GoO.pure (ps_move rfl rfl) ?_
 refine GoO.nil ?_
 refine GoK.code ?_
 have hb := bind_l H; clear H
 obtain ⟨f5, hl8, HK2⟩ := hb
 refine GoC.blockJ [] [.one βr_1 3 1 (row r.f)] (fun v h => v = [(0, .ptr βr 17 0 0)] ∧ h = [.one βr 100 17 (arrC (α := Int) [.v (.int .i64 r.n.n), .v (.int .i64 r.n.s), .v (.int .i64 r.n.t), slD r.n.as, .own βr_1 1 0 r.f.length] f5)]) ?_ ?_
 refine GoC.loopJ [] [.one βr_1 3 1 (row r.f)] (fun mQ v h => ∃ (k6 : Nat) (f1 : (Nat → Int)), (k6 + mQ = 12 ∧ forN (level_levels_B1) mQ k6 f1 = some f5) ∧ v = [(8, .v (.int .i64 ((k6 : Nat) : Int))), (0, .ptr βr 17 0 0)] ∧ h = [.one βr 100 17 (arrC (α := Int) [.v (.int .i64 r.n.n), .v (.int .i64 r.n.s), .v (.int .i64 r.n.t), slD r.n.as, .own βr_1 1 0 r.f.length] f1)]) 12 ⟨_, _, ⟨by omega, hl8⟩, rfl, rfl⟩ (EnvD.eq rfl (EnvD.eq rfl (EnvD.nil))) (TkD.cons _ _ _ _ _ Rem.p0 (HLe.arrP rfl ⟨⟨⟨⟨⟨trivial, DLe.refl _⟩, DLe.refl _⟩, DLe.refl _⟩, DLe.refl _⟩, DLe.refl _⟩) (TkD.cons _ _ _ _ _ Rem.p0 (HLe.refl _) (TkD.nil _))) ?_
 rintro m7 v h ⟨k6, f1, ⟨hkk6, hF3⟩, rfl, rfl⟩
 refine GoC.seq ?_
 refine GoC.region ?_
 refine GoO.pure (ps_lss rfl rfl rfl) ?_
 refine GoO.nil ?_
 refine GoK.code ?_
 refine GoC.seq ?_
 refine GoC.condD rfl (fun (hk6 : (k6 : Int) < ((12 : Nat) : Int)) => ?_) (fun (hk6 : ¬ (k6 : Int) < ((12 : Nat) : Int)) => ?_)
 obtain ⟨m7', rfl⟩ : ∃ x, m7 = x + 1 := ⟨m7 - 1, by omega⟩
 have hb := bind_l hF3; clear hF3
 obtain ⟨qrm7, H, hF3⟩ := hb
 have hnk6 : k6 < 12 := by omega
 have hIk6 : InI ((k6 : Int) + 1) := inI_cnt hk6 (by unfold InI; omega)
 refine GoC.skip ?_
 refine GoK.code ?_
 refine GoC.seq ?_
 refine GoC.block ?_
 refine GoC.seq ?_
 refine GoC.region ?_
 refine GoO.pure (ps_move rfl rfl) ?_
 refine GoO.pure (ps_assign rfl rfl) ?_
 refine GoO.nil ?_
 refine GoK.code ?_
 refine GoC.region ?_
 refine GoO.pure (ps_move rfl rfl) ?_
 refine GoO.pure (ps_move rfl rfl) ?_
 refine GoO.pure (ps_nilCheck rfl rfl) ?_
 refine GoO.pure (ps_fieldAddr rfl rfl) ?_
 refine GoO.pure (ps_indexAddrA rfl rfl ⟨Int.natCast_nonneg _, Int.ofNat_lt.2 hnk6⟩ rfl) ?_
 refine GoO.eff1 (ef_store rfl rfl rfl At.p0 (upd_arr1 (α := Int) (i := k6) (v := (-1)) rfl (by simp only [show El.size Int = 1 from rfl, List.length_cons, List.length_nil, eldI]; omega) rfl) Nat.zero_lt_one (blt_of (arr_lt (α := Int) (pre := [.v (.int .i64 r.n.n), .v (.int .i64 r.n.s), .v (.int .i64 r.n.t), slD r.n.as, .own βr_1 1 0 r.f.length]) (i := k6) (off := 0) (by simp only [show El.size Int = 1 from rfl, List.length_cons, List.length_nil, eldI]; omega) hnk6 (by decide) rfl))) ?_
 refine GoO.nil ?_
 refine GoK.blk ?_
 refine GoK.code ?_
 refine GoC.region ?_
 refine GoO.pure (ps_add rfl rfl rfl hIk6) ?_
 refine GoO.pure (ps_move rfl rfl) ?_
 refine GoO.nil ?_
 obtain rfl := Option.some.inj H
 exact GoK.againJ m7' (by omega) ⟨_, _, ⟨by omega, hF3⟩, rfl, rfl⟩ (EnvD.eq rfl (EnvD.eq rfl (EnvD.nil))) (TkD.cons _ _ _ _ _ Rem.p0 (HLe.arrP rfl ⟨⟨⟨⟨⟨trivial, DLe.refl _⟩, DLe.refl _⟩, DLe.refl _⟩, DLe.refl _⟩, DLe.refl _⟩) (TkD.cons _ _ _ _ _ Rem.p0 (HLe.refl _) (TkD.nil _)))
 obtain rfl : m7 = 0 := by omega
 refine GoC.exit rfl ?_
 cases hF3
 exact GoK.meet ⟨rfl, rfl⟩ (EnvD.eq rfl (EnvD.nil)) (TkD.cons _ _ _ _ _ Rem.p0 (HLe.arrP rfl ⟨⟨⟨⟨⟨trivial, DLe.refl _⟩, DLe.refl _⟩, DLe.refl _⟩, DLe.refl _⟩, DLe.refl _⟩) (TkD.cons _ _ _ _ _ Rem.p0 (HLe.refl _) (TkD.nil _)))
 rintro v h ⟨rfl, rfl⟩
 have H := HK2; clear HK2
 refine GoK.code ?_
 refine GoC.seq ?_
 refine GoC.drawP (.q 0 (.q 1 (.q 2 (.q 3 (.q 4 (.q 6 (.q 7 (.one 5 (.q 8 (.one 9 (.done))))))))))) [] follows (by kernel_rfl) (Take.nil _) ?_
 refine GoP.qN rfl (ps_move rfl rfl) ?_
 refine GoP.qN rfl (ps_move rfl rfl) ?_
 refine GoP.qN rfl (ps_nilCheck rfl rfl) ?_
 refine GoP.qN rfl (ps_fieldAddr rfl rfl) ?_
 refine GoP.qN rfl (ps_fieldAddr rfl rfl) ?_
 refine GoP.qN rfl (ps_nilCheck rfl rfl) ?_
 refine GoP.qN rfl (ps_fieldAddr rfl rfl) ?_
 refine GoP.oneN rfl (ps_load rfl At.p0 At.p0 Nat.zero_lt_one rfl rfl) (Take.nil _) ?_
 have c9 := ck_l H; replace H := ck_r H
 refine GoP.qN rfl (ps_indexAddrA rfl rfl c9 rfl) ?_
 refine GoP.one1 rfl trivial (ef_store rfl rfl rfl At.p0 (upd_arr1 (α := Int) (i := r.n.s.toNat) (v := 0) rfl (by simp only [show El.size Int = 1 from rfl, List.length_cons, List.length_nil, eldI]; omega) rfl) Nat.zero_lt_one (blt_of (arr_lt (α := Int) (pre := [.v (.int .i64 r.n.n), .v (.int .i64 r.n.s), .v (.int .i64 r.n.t), slD r.n.as, .own βr_1 1 0 r.f.length]) (i := r.n.s.toNat) (off := 0) (by simp only [show El.size Int = 1 from rfl, List.length_cons, List.length_nil, eldI]; omega) (idx_lt (n := 12) c9) (by decide) rfl))) (Take.cons _ _ _ _ _ Rem.p0 (Take.nil _)) ?_
 refine GoP.done ?_
 refine GoK.code ?_
 refine GoC.seq ?_
 refine GoC.seq ?_
 refine GoC.region ?_
 refine GoO.pure (ps_move rfl rfl) ?_
 refine GoO.pure (ps_nilCheck rfl rfl) ?_
 refine GoO.pure (ps_fieldAddr rfl rfl) ?_
 refine GoO.pure (ps_fieldAddr rfl rfl) ?_
 refine GoO.pure (ps_load rfl At.p0 At.p0 Nat.zero_lt_one rfl rfl) ?_
 refine GoO.effB (ef_buildSlice (row ([r.n.s] : List Int)) rfl (Parts.cons _ _ _ _ _ _ _ _ ⟨rfl, rfl⟩ (Part.one _ rfl rfl) rfl rfl (Parts.nil _)) rfl rfl rfl rfl) (fun β10 => ?_)
 refine GoO.pure (ps_assign rfl rfl) ?_
 refine GoO.nil ?_
 refine GoK.code ?_
 have hb := bind_l H; clear H
 obtain ⟨q16, hl63, HK14⟩ := hb
 refine GoC.blockJ [] [.one βr_1 3 1 (row r.f)] (fun v h => ∃ (f17 : (Nat → Int)) (l18 : (List Int)) (β12 : BK), q16 = .go (f17, l18) ∧ v = [(0, .ptr βr 17 0 0)] ∧ h = [.one βr 100 17 (arrC (α := Int) [.v (.int .i64 r.n.n), .v (.int .i64 r.n.s), .v (.int .i64 r.n.t), slD r.n.as, .own βr_1 1 0 r.f.length] f17), .one β12 3 1 (row l18)]) ?_ ?_
 refine GoC.loopJ [] [.one βr_1 3 1 (row r.f)] (fun mQ v h => ∃ (f11 : (Nat → Int)) (l13 : (List Int)) (β12 : BK), loopC (level_levels_B2 r) mQ (f11, l13) = some q16 ∧ v = [(0, .ptr βr 17 0 0), (4, .own β12 1 0 l13.length)] ∧ h = [.one βr 100 17 (arrC (α := Int) [.v (.int .i64 r.n.n), .v (.int .i64 r.n.s), .v (.int .i64 r.n.t), slD r.n.as, .own βr_1 1 0 r.f.length] f11), .one β12 3 1 (row l13)]) 1000000 ⟨_, _, β10, hl63, rfl, rfl⟩ (EnvD.eq rfl (EnvD.cons rfl (DLe.len (by first | rfl | omega | (simp only [row_len, gridC_len, rowO_len, List.length_cons, List.length_nil] <;> first | rfl | omega))) (EnvD.nil))) (TkD.cons _ _ _ _ _ Rem.p1 (HLe.arrP rfl ⟨⟨⟨⟨⟨trivial, DLe.refl _⟩, DLe.refl _⟩, DLe.refl _⟩, DLe.refl _⟩, DLe.refl _⟩) (TkD.cons _ _ _ _ _ Rem.p0 (HLe.refl _) (TkD.cons _ _ _ _ _ Rem.p0 (HLe.refl _) (TkD.nil _)))) ?_
 rintro m19 v h ⟨f11, l13, β12, hF15, rfl, rfl⟩
 obtain ⟨m19', rfl⟩ | rfl : (∃ x, m19 = x + 1) ∨ m19 = 0 := by cases m19 <;> simp
 case inr => cases hF15
 have hb := bind_l hF15; clear hF15
 obtain ⟨qrm19, H, hF15⟩ := hb
 refine GoC.seq ?_
 refine GoC.seq ?_
 refine GoC.region ?_
 refine GoO.pure (ps_move rfl rfl) ?_
 refine GoO.pure (ps_len rfl (by constructor) rfl) ?_
 refine GoO.lenLe (n := l13.length) (x := .tmp 32) rfl (by constructor) own_lenLe (fun ml20 => ?_)
 refine GoO.pure (ps_gtr rfl rfl rfl) ?_
 refine GoO.nil ?_
 refine GoK.code ?_
 refine GoC.condD rfl (fun h21 => ?_) (fun h21 => ?_)
 replace H := ite_t h21 H
 refine GoC.skip ?_
 refine GoK.code ?_
 refine GoC.seq ?_
 refine GoC.block ?_
 refine GoC.seq ?_
 refine GoC.region ?_
 refine GoO.pure (ps_move rfl rfl) ?_
 have c22 := ck_l H; replace H := ck_r H
 refine GoO.pure (ps_indexAddr0N (i := 0) rfl rfl c22 rfl) ?_
 refine GoO.pure (ps_load rfl At.p1 At.p1 c22 rfl rfl) ?_
 refine GoO.pure (ps_assign rfl rfl) ?_
 refine GoO.nil ?_
 refine GoK.code ?_
 refine GoC.seq ?_
 refine GoC.region ?_
 refine GoO.pure (ps_move rfl rfl) ?_
 refine GoO.pure (ps_nilCheck rfl rfl) ?_
 refine GoO.pure (ps_fieldAddr rfl rfl) ?_
 refine GoO.pure (ps_fieldAddr rfl rfl) ?_
 refine GoO.pure (ps_load rfl At.p0 At.p0 Nat.zero_lt_one rfl rfl) ?_
 refine GoO.pure (ps_len rfl (by constructor) rfl) ?_
 refine GoO.lenLe (n := r.n.as.length) (x := .tmp 44) rfl (by constructor) sl_lenLe (fun ml23 => ?_)
 refine GoO.pure (ps_move rfl rfl) ?_
 refine GoO.nil ?_
 refine GoK.code ?_
 have hb := bind_l H; clear H
 obtain ⟨⟨f30, l31⟩, hl60, HK27⟩ := hb
 refine GoC.blockJ [] [.one βr_1 3 1 (row r.f)] (fun v h => ∃ (β25 : BK), v = [(0, .ptr βr 17 0 0), (4, .own β25 1 0 l31.length)] ∧ h = [.one βr 100 17 (arrC (α := Int) [.v (.int .i64 r.n.n), .v (.int .i64 r.n.s), .v (.int .i64 r.n.t), slD r.n.as, .own βr_1 1 0 r.f.length] f30), .one β25 3 1 (row l31)]) ?_ ?_
 refine GoC.loopJ [(5, _), (44, _), (45, _)] [.one βr_1 3 1 (row r.f)] (fun mQ v h => ∃ (k32 : Nat) (f24 : (Nat → Int)) (l26 : (List Int)) (β25 : BK), (k32 + mQ = r.n.as.length ∧ forN (level_levels_B3 r l13) mQ k32 (f24, l26) = some (f30, l31)) ∧ v = [(46, .v (.int .i64 ((k32 : Nat) : Int))), (0, .ptr βr 17 0 0), (4, .own β25 1 0 l26.length)] ∧ h = [.one βr 100 17 (arrC (α := Int) [.v (.int .i64 r.n.n), .v (.int .i64 r.n.s), .v (.int .i64 r.n.t), slD r.n.as, .own βr_1 1 0 r.f.length] f24), .one β25 3 1 (row l26)]) r.n.as.length ⟨_, _, _, β12, ⟨by omega, hl60⟩, rfl, rfl⟩ (EnvD.eq rfl (EnvD.eq rfl (EnvD.cons rfl (DLe.len (by first | rfl | omega | (simp only [row_len, gridC_len, rowO_len] <;> first | rfl | omega))) (EnvD.eq rfl (EnvD.eq rfl (EnvD.eq rfl (EnvD.nil))))))) (TkD.cons _ _ _ _ _ Rem.p0 (HLe.arrP rfl ⟨⟨⟨⟨⟨trivial, DLe.refl _⟩, DLe.refl _⟩, DLe.refl _⟩, DLe.refl _⟩, DLe.refl _⟩) (TkD.cons _ _ _ _ _ Rem.p0 (HLe.refl _) (TkD.cons _ _ _ _ _ Rem.p0 (HLe.refl _) (TkD.nil _)))) ?_
 rintro m33 v h ⟨k32, f24, l26, β25, ⟨hkk32, hF28⟩, rfl, rfl⟩
 refine GoC.seq ?_
 refine GoC.region ?_
 refine GoO.pure (ps_lss rfl rfl rfl) ?_
 refine GoO.nil ?_
 refine GoK.code ?_
 refine GoC.seq ?_
 refine GoC.condD rfl (fun (hk32 : (k32 : Int) < ((r.n.as.length : Nat) : Int)) => ?_) (fun (hk32 : ¬ (k32 : Int) < ((r.n.as.length : Nat) : Int)) => ?_)
 obtain ⟨m33', rfl⟩ : ∃ x, m33 = x + 1 := ⟨m33 - 1, by omega⟩
 have hb := bind_l hF28; clear hF28
 obtain ⟨qrm33, H, hF28⟩ := hb
 have hnk32 : k32 < r.n.as.length := by omega
 have hIk32 : InI ((k32 : Int) + 1) := inI_len hk32 ml23
 refine GoC.skip ?_
 refine GoK.code ?_
 refine GoC.seq ?_
 refine GoC.block ?_
 refine GoC.seq ?_
 refine GoC.region ?_
 refine GoO.pure (ps_move rfl rfl) ?_
 refine GoO.pure (ps_indexAddrRN rfl rfl hnk32 rfl) ?_
 refine GoO.pure (ps_loadAgR rfl hnk32 rfl rfl) ?_
 refine GoO.effB (ef_alloc rfl) (fun β34 => ?_)
 refine GoO.pure (ps_assign rfl rfl) ?_
 refine GoO.eff1 (ef_storeAg rfl rfl At.p0 upd_whole Nat.zero_lt_one rfl) ?_
 refine GoO.nil ?_
 refine GoK.code ?_
 have hb := bind_l H; clear H
 obtain ⟨⟨f35, l37⟩, H, HK38⟩ := hb
 refine GoC.seqJ [(5, .v (.int .i64 (l13.getD 0 (0 : Int)))), (6, .v (.int .i64 ((k32 : Nat) : Int))), (7, .ptr β34 3 0 0), (44, slD r.n.as), (45, .v (.int .i64 ((r.n.as.length : Nat) : Int))), (46, .v (.int .i64 ((k32 : Nat) : Int)))] [.one β34 39 3 (st1 (nth [.v (.int .i64 ((r.n.as.getD k32 El.d).f)), .v (.int .i64 ((r.n.as.getD k32 El.d).t)), .v (.int .i64 ((r.n.as.getD k32 El.d).c))])), .one βr_1 3 1 (row r.f)] (fun v h => ∃ (β36 : BK), v = [(0, .ptr βr 17 0 0), (4, .own β36 1 0 l37.length)] ∧ h = [.one βr 100 17 (arrC (α := Int) [.v (.int .i64 r.n.n), .v (.int .i64 r.n.s), .v (.int .i64 r.n.t), slD r.n.as, .own βr_1 1 0 r.f.length] f35), .one β36 3 1 (row l37)]) ?_ ?_
 refine GoC.seq ?_
 refine GoC.drawA (.q 0 (.q 1 (.q 2 (.q 3 (.q 4 (.q 5 (.q 6 (.q 7 (.q 8 (.q 9 (.q 10 (.q 11 (.q 12 (.q 13 (.q 14 (.q 15 (.q 16 (.q 17 (.q 18 (.q 19 (.q 20 (.q 21 (.q 22 (.q 23 (.q 24 (.q 25 (.done))))))))))))))))))))))))))) follows (by kernel_rfl) ?_
 refine GoP.qN rfl (ps_fieldAddr rfl rfl) ?_
 refine GoP.qN rfl (ps_load rfl At.p0 At.p0 Nat.zero_lt_one rfl rfl) ?_
 refine GoP.qN rfl (ps_move rfl rfl) ?_
 refine GoP.qN rfl (ps_eql rfl rfl rfl) ?_
 refine GoP.qN rfl (ps_move rfl rfl) ?_
 refine GoP.decideD 55 rfl (fun h40 => ?_) (fun h40 => ?_)
 replace H := ite_t h40 H
 refine GoP.qT rfl rfl rfl rfl (ps_move rfl rfl) ?_
 refine GoP.qT rfl rfl rfl rfl (ps_nilCheck rfl rfl) ?_
 refine GoP.qT rfl rfl rfl rfl (ps_fieldAddr rfl rfl) ?_
 refine GoP.qT rfl rfl rfl rfl (ps_load rfl At.p1 At.p1 Nat.zero_lt_one rfl rfl) ?_
 refine GoP.qT rfl rfl rfl rfl (ps_move rfl rfl) ?_
 have c41 := ck_l H; replace H := ck_r H
 refine GoP.qT rfl rfl rfl rfl (ps_indexAddr0N rfl rfl c41 rfl) ?_
 refine GoP.qT rfl rfl rfl rfl (ps_load rfl At.p3 At.p3 c41 rfl rfl) ?_
 refine GoP.qT rfl rfl rfl rfl (ps_fieldAddr rfl rfl) ?_
 refine GoP.qT rfl rfl rfl rfl (ps_load rfl At.p0 At.p0 Nat.zero_lt_one rfl rfl) ?_
 refine GoP.qT rfl rfl rfl rfl (ps_lss rfl rfl rfl) ?_
 refine GoP.qN rfl (ps_pickT rfl rfl rfl) ?_
 refine GoP.qN rfl (ps_move rfl rfl) ?_
 refine GoP.decideD 67 rfl (fun h42 => ?_) (fun h42 => ?_)
 replace H := ite_t h42 H
 refine GoP.qT rfl rfl rfl rfl (ps_move rfl rfl) ?_
 refine GoP.qT rfl rfl rfl rfl (ps_fieldAddr rfl rfl) ?_
 refine GoP.qT rfl rfl rfl rfl (ps_load rfl At.p0 At.p0 Nat.zero_lt_one rfl rfl) ?_
 refine GoP.qT rfl rfl rfl rfl (ps_nilCheck rfl rfl) ?_
 refine GoP.qT rfl rfl rfl rfl (ps_fieldAddr rfl rfl) ?_
 have c43 := ck_l H; replace H := ck_r H
 refine GoP.qT rfl rfl rfl rfl (ps_indexAddrA rfl rfl c43 rfl) ?_
 refine GoP.qT rfl rfl rfl rfl (ps_loadA (α := Int) (i := ((r.n.as.getD k32 El.d).t).toNat) (off := 0) rfl At.p1 At.p1 (by simp only [show El.size Int = 1 from rfl, List.length_cons, List.length_nil, eldI]; omega) (idx_lt (n := 12) c43) rfl rfl rfl) ?_
 refine GoP.qT rfl rfl rfl rfl (ps_lss rfl rfl rfl) ?_
 refine GoP.qN rfl (ps_pickT rfl rfl rfl) ?_
 refine GoP.done ?_
 refine GoK.code ?_
 refine GoC.condD rfl (fun h44 => ?_) (fun h44 => ?_)
 replace H := ite_t h44 H
 refine GoC.seq ?_
 refine GoC.drawP (.q 0 (.q 1 (.q 2 (.q 3 (.q 4 (.q 5 (.q 6 (.q 7 (.q 10 (.q 11 (.one 8 (.q 9 (.q 12 (.one 13 (.done))))))))))))))) [(7, _, _, _)] follows (by kernel_rfl) (Take.cons _ _ _ _ _ Rem.p0 (Take.nil _)) ?_
 refine GoP.qN rfl (ps_move rfl rfl) ?_
 refine GoP.qN rfl (ps_fieldAddr rfl rfl) ?_
 refine GoP.qN rfl (ps_load rfl At.p0 At.p0 Nat.zero_lt_one rfl rfl) ?_
 refine GoP.qN rfl (ps_move rfl rfl) ?_
 refine GoP.qN rfl (ps_move rfl rfl) ?_
 refine GoP.qN rfl (ps_nilCheck rfl rfl) ?_
 refine GoP.qN rfl (ps_fieldAddr rfl rfl) ?_
 have c45 := ck_l H; replace H := ck_r H
 refine GoP.qN rfl (ps_indexAddrA rfl rfl c45 rfl) ?_
 refine GoP.qN rfl (ps_nilCheck rfl rfl) ?_
 refine GoP.qN rfl (ps_fieldAddr rfl rfl) ?_
 refine GoP.oneN rfl (ps_loadA (α := Int) (i := (l13.getD 0 (0 : Int)).toNat) (off := 0) rfl At.p1 At.p1 (by simp only [show El.size Int = 1 from rfl, List.length_cons, List.length_nil, eldI]; omega) (idx_lt (n := 12) c45) rfl rfl rfl) (Take.cons _ _ _ _ _ Rem.p0 (Take.nil _)) ?_
 have c46 := ck_l H; replace H := ck_r H
 refine GoP.qN rfl (ps_add rfl rfl rfl c46) ?_
 refine GoP.qN rfl (ps_indexAddrA rfl rfl c43 rfl) ?_
 refine GoP.one1 rfl trivial (ef_store rfl rfl rfl At.p1 (upd_arr1 (α := Int) (i := ((r.n.as.getD k32 El.d).t).toNat) (v := ((f24 ((l13.getD 0 (0 : Int)).toNat)) + 1)) rfl (by simp only [show El.size Int = 1 from rfl, List.length_cons, List.length_nil, eldI]; omega) rfl) Nat.zero_lt_one (blt_of (arr_lt (α := Int) (pre := [.v (.int .i64 r.n.n), .v (.int .i64 r.n.s), .v (.int .i64 r.n.t), slD r.n.as, .own βr_1 1 0 r.f.length]) (i := ((r.n.as.getD k32 El.d).t).toNat) (off := 0) (by simp only [show El.size Int = 1 from rfl, List.length_cons, List.length_nil, eldI]; omega) (idx_lt (n := 12) c43) (by decide) rfl))) (Take.cons _ _ _ _ _ Rem.p1 (Take.cons _ _ _ _ _ Rem.p0 (Take.nil _))) ?_
 refine GoP.done ?_
 refine GoK.code ?_
 refine GoC.region ?_
 refine GoO.pure (ps_move rfl rfl) ?_
 refine GoO.pure (ps_fieldAddr rfl rfl) ?_
 refine GoO.pure (ps_load rfl At.p0 At.p0 Nat.zero_lt_one rfl rfl) ?_
 refine GoO.effB (ef_buildSlice (row ([(r.n.as.getD k32 El.d).t] : List Int)) rfl (Parts.cons _ _ _ _ _ _ _ _ ⟨rfl, rfl⟩ (Part.one _ rfl rfl) rfl rfl (Parts.nil _)) rfl rfl rfl rfl) (fun β47 => ?_)
 have c49 := ck_l H; replace H := ck_r H
 refine GoO.effB (ef_append rfl rfl Rem.p3 (Src.own At.p0 (by first | omega | (simp only [subl_length, cpl_length, List.length_set, List.length_append, List.length_cons, List.length_nil, List.length_replicate, row_len]; omega) | (simp only [subl_length, cpl_length, List.length_set, List.length_append, List.length_cons, List.length_nil, List.length_replicate, row_len]; done))) (cat_row (α := Int) (by first | rfl | omega | (simp only [subl_length, cpl_length, List.length_set, List.length_append, List.length_cons, List.length_nil, List.length_replicate, row_len] <;> first | rfl | omega)) (by first | rfl | omega | (simp only [subl_length, cpl_length, List.length_set, List.length_append, List.length_cons, List.length_nil, List.length_replicate, row_len] <;> first | rfl | omega)) (fun _ _ _ _ => rfl)) (by first | omega | (simp only [subl_length, cpl_length, List.length_set, List.length_append, List.length_cons, List.length_nil, List.length_replicate, row_len]; omega) | (simp only [subl_length, cpl_length, List.length_set, List.length_append, List.length_cons, List.length_nil, List.length_replicate, row_len]; done)) (app_le c49 rfl) rfl rfl rfl) (fun β48 => ?_)
 refine GoO.pure (ps_assign rfl rfl) ?_
 refine GoO.nil ?_
 cases H
 exact GoK.meet ⟨β48, rfl, rfl⟩ (EnvD.eq rfl (EnvD.cons rfl (DLe.len (by first | rfl | omega | (simp only [row_len, gridC_len, rowO_len, List.length_append, List.length_cons, List.length_nil] <;> first | rfl | omega))) (EnvD.eq rfl (EnvD.eq rfl (EnvD.eq rfl (EnvD.eq rfl (EnvD.eq rfl (EnvD.eq rfl (EnvD.nil))))))))) (TkD.cons _ _ _ _ _ Rem.p3 (HLe.arrP rfl ⟨⟨⟨⟨⟨trivial, DLe.refl _⟩, DLe.refl _⟩, DLe.refl _⟩, DLe.refl _⟩, DLe.refl _⟩) (TkD.cons _ _ _ _ _ Rem.p0 (HLe.refl _) (TkD.cons _ _ _ _ _ Rem.p1 (HLe.st ⟨⟨⟨trivial, DLe.refl _⟩, DLe.refl _⟩, DLe.refl _⟩) (TkD.cons _ _ _ _ _ Rem.p1 (HLe.refl _) (TkD.nil _)))))
 replace H := ite_f h44 H
 refine GoC.skip ?_
 cases H
 exact GoK.meet ⟨β25, rfl, rfl⟩ (EnvD.eq rfl (EnvD.cons rfl (DLe.len (by first | rfl | omega | (simp only [row_len, gridC_len, rowO_len] <;> first | rfl | omega))) (EnvD.eq rfl (EnvD.eq rfl (EnvD.eq rfl (EnvD.eq rfl (EnvD.eq rfl (EnvD.eq rfl (EnvD.nil))))))))) (TkD.cons _ _ _ _ _ Rem.p1 (HLe.arrP rfl ⟨⟨⟨⟨⟨trivial, DLe.refl _⟩, DLe.refl _⟩, DLe.refl _⟩, DLe.refl _⟩, DLe.refl _⟩) (TkD.cons _ _ _ _ _ Rem.p1 (HLe.refl _) (TkD.cons _ _ _ _ _ Rem.p0 (HLe.st ⟨⟨⟨trivial, DLe.refl _⟩, DLe.refl _⟩, DLe.refl _⟩) (TkD.cons _ _ _ _ _ Rem.p0 (HLe.refl _) (TkD.nil _)))))
 replace H := ite_f h42 H
 refine GoP.qF rfl rfl rfl rfl rfl ?_
 refine GoP.qF rfl rfl rfl rfl rfl ?_
 refine GoP.qF rfl rfl rfl rfl rfl ?_
 refine GoP.qF rfl rfl rfl rfl rfl ?_
 refine GoP.qF rfl rfl rfl rfl rfl ?_
 refine GoP.qF rfl rfl rfl rfl rfl ?_
 refine GoP.qF rfl rfl rfl rfl rfl ?_
 refine GoP.qF rfl rfl rfl rfl rfl ?_
 refine GoP.qN rfl (ps_pickF rfl rfl rfl) ?_
 refine GoP.done ?_
 refine GoK.code ?_
 refine GoC.condF rfl ?_
 refine GoC.skip ?_
 cases H
 exact GoK.meet ⟨β25, rfl, rfl⟩ (EnvD.eq rfl (EnvD.cons rfl (DLe.len (by first | rfl | omega | (simp only [row_len, gridC_len, rowO_len] <;> first | rfl | omega))) (EnvD.eq rfl (EnvD.eq rfl (EnvD.eq rfl (EnvD.eq rfl (EnvD.eq rfl (EnvD.eq rfl (EnvD.nil))))))))) (TkD.cons _ _ _ _ _ Rem.p1 (HLe.arrP rfl ⟨⟨⟨⟨⟨trivial, DLe.refl _⟩, DLe.refl _⟩, DLe.refl _⟩, DLe.refl _⟩, DLe.refl _⟩) (TkD.cons _ _ _ _ _ Rem.p1 (HLe.refl _) (TkD.cons _ _ _ _ _ Rem.p0 (HLe.st ⟨⟨⟨trivial, DLe.refl _⟩, DLe.refl _⟩, DLe.refl _⟩) (TkD.cons _ _ _ _ _ Rem.p0 (HLe.refl _) (TkD.nil _)))))
 replace H := ite_f h40 H
 refine GoP.qF rfl rfl rfl rfl rfl ?_
 refine GoP.qF rfl rfl rfl rfl rfl ?_
 refine GoP.qF rfl rfl rfl rfl rfl ?_
 refine GoP.qF rfl rfl rfl rfl rfl ?_
 refine GoP.qF rfl rfl rfl rfl rfl ?_
 refine GoP.qF rfl rfl rfl rfl rfl ?_
 refine GoP.qF rfl rfl rfl rfl rfl ?_
 refine GoP.qF rfl rfl rfl rfl rfl ?_
 refine GoP.qF rfl rfl rfl rfl rfl ?_
 refine GoP.qF rfl rfl rfl rfl rfl ?_
 refine GoP.qN rfl (ps_pickF rfl rfl rfl) ?_
 refine GoP.qN rfl (ps_move rfl rfl) ?_
 refine GoP.qF rfl rfl rfl rfl rfl ?_
 refine GoP.qF rfl rfl rfl rfl rfl ?_
 refine GoP.qF rfl rfl rfl rfl rfl ?_
 refine GoP.qF rfl rfl rfl rfl rfl ?_
 refine GoP.qF rfl rfl rfl rfl rfl ?_
 refine GoP.qF rfl rfl rfl rfl rfl ?_
 refine GoP.qF rfl rfl rfl rfl rfl ?_
 refine GoP.qF rfl rfl rfl rfl rfl ?_
 refine GoP.qN rfl (ps_pickF rfl rfl rfl) ?_
 refine GoP.done ?_
 refine GoK.code ?_
 refine GoC.condF rfl ?_
 refine GoC.skip ?_
 cases H
 exact GoK.meet ⟨β25, rfl, rfl⟩ (EnvD.eq rfl (EnvD.cons rfl (DLe.len (by first | rfl | omega | (simp only [row_len, gridC_len, rowO_len] <;> first | rfl | omega))) (EnvD.eq rfl (EnvD.eq rfl (EnvD.eq rfl (EnvD.eq rfl (EnvD.eq rfl (EnvD.eq rfl (EnvD.nil))))))))) (TkD.cons _ _ _ _ _ Rem.p1 (HLe.arrP rfl ⟨⟨⟨⟨⟨trivial, DLe.refl _⟩, DLe.refl _⟩, DLe.refl _⟩, DLe.refl _⟩, DLe.refl _⟩) (TkD.cons _ _ _ _ _ Rem.p1 (HLe.refl _) (TkD.cons _ _ _ _ _ Rem.p0 (HLe.st ⟨⟨⟨trivial, DLe.refl _⟩, DLe.refl _⟩, DLe.refl _⟩) (TkD.cons _ _ _ _ _ Rem.p0 (HLe.refl _) (TkD.nil _)))))
 rintro v h ⟨β36, rfl, rfl⟩
 have H := HK38; clear HK38
 refine GoC.seq ?_
 refine GoC.drawA (.q 0 (.q 1 (.q 2 (.q 3 (.q 4 (.q 5 (.q 6 (.q 7 (.q 8 (.q 9 (.q 10 (.q 11 (.q 12 (.q 13 (.q 14 (.q 15 (.q 16 (.q 17 (.q 18 (.q 19 (.q 20 (.q 21 (.q 22 (.q 23 (.done))))))))))))))))))))))))) follows (by kernel_rfl) ?_
 refine GoP.qN rfl (ps_fieldAddr rfl rfl) ?_
 refine GoP.qN rfl (ps_load rfl At.p2 At.p2 Nat.zero_lt_one rfl rfl) ?_
 refine GoP.qN rfl (ps_move rfl rfl) ?_
 refine GoP.qN rfl (ps_eql rfl rfl rfl) ?_
 refine GoP.qN rfl (ps_move rfl rfl) ?_
 refine GoP.decideD 99 rfl (fun h50 => ?_) (fun h50 => ?_)
 replace H := ite_t h50 H
 refine GoP.qT rfl rfl rfl rfl (ps_move rfl rfl) ?_
 refine GoP.qT rfl rfl rfl rfl (ps_nilCheck rfl rfl) ?_
 refine GoP.qT rfl rfl rfl rfl (ps_fieldAddr rfl rfl) ?_
 refine GoP.qT rfl rfl rfl rfl (ps_load rfl At.p0 At.p0 Nat.zero_lt_one rfl rfl) ?_
 refine GoP.qT rfl rfl rfl rfl (ps_move rfl rfl) ?_
 have c51 := ck_l H; replace H := ck_r H
 refine GoP.qT rfl rfl rfl rfl (ps_indexAddr0N rfl rfl c51 rfl) ?_
 refine GoP.qT rfl rfl rfl rfl (ps_load rfl At.p3 At.p3 c51 rfl rfl) ?_
 refine GoP.qT rfl rfl rfl rfl (ps_gtr rfl rfl rfl) ?_
 refine GoP.qN rfl (ps_pickT rfl rfl rfl) ?_
 refine GoP.qN rfl (ps_move rfl rfl) ?_
 refine GoP.decideD 109 rfl (fun h52 => ?_) (fun h52 => ?_)
 replace H := ite_t h52 H
 refine GoP.qT rfl rfl rfl rfl (ps_move rfl rfl) ?_
 refine GoP.qT rfl rfl rfl rfl (ps_fieldAddr rfl rfl) ?_
 refine GoP.qT rfl rfl rfl rfl (ps_load rfl At.p2 At.p2 Nat.zero_lt_one rfl rfl) ?_
 refine GoP.qT rfl rfl rfl rfl (ps_nilCheck rfl rfl) ?_
 refine GoP.qT rfl rfl rfl rfl (ps_fieldAddr rfl rfl) ?_
 have c53 := ck_l H; replace H := ck_r H
 refine GoP.qT rfl rfl rfl rfl (ps_indexAddrA rfl rfl c53 rfl) ?_
 refine GoP.qT rfl rfl rfl rfl (ps_loadA (α := Int) (i := ((r.n.as.getD k32 El.d).f).toNat) (off := 0) rfl At.p0 At.p0 (by simp only [show El.size Int = 1 from rfl, List.length_cons, List.length_nil, eldI]; omega) (idx_lt (n := 12) c53) rfl rfl rfl) ?_
 refine GoP.qT rfl rfl rfl rfl (ps_lss rfl rfl rfl) ?_
 refine GoP.qN rfl (ps_pickT rfl rfl rfl) ?_
 refine GoP.done ?_
 refine GoK.code ?_
 refine GoC.condD rfl (fun h54 => ?_) (fun h54 => ?_)
 replace H := ite_t h54 H
 refine GoC.seq ?_
 refine GoC.drawP (.q 0 (.q 1 (.q 2 (.q 3 (.q 4 (.q 5 (.q 6 (.q 7 (.q 10 (.q 11 (.one 8 (.q 9 (.q 12 (.one 13 (.done))))))))))))))) [(7, _, _, _)] follows (by kernel_rfl) (Take.cons _ _ _ _ _ Rem.p2 (Take.nil _)) ?_
 refine GoP.qN rfl (ps_move rfl rfl) ?_
 refine GoP.qN rfl (ps_fieldAddr rfl rfl) ?_
 refine GoP.qN rfl (ps_load rfl At.p2 At.p0 Nat.zero_lt_one rfl rfl) ?_
 refine GoP.qN rfl (ps_move rfl rfl) ?_
 refine GoP.qN rfl (ps_move rfl rfl) ?_
 refine GoP.qN rfl (ps_nilCheck rfl rfl) ?_
 refine GoP.qN rfl (ps_fieldAddr rfl rfl) ?_
 have c55 := ck_l H; replace H := ck_r H
 refine GoP.qN rfl (ps_indexAddrA rfl rfl c55 rfl) ?_
 refine GoP.qN rfl (ps_nilCheck rfl rfl) ?_
 refine GoP.qN rfl (ps_fieldAddr rfl rfl) ?_
 refine GoP.oneN rfl (ps_loadA (α := Int) (i := (l13.getD 0 (0 : Int)).toNat) (off := 0) rfl At.p0 At.p0 (by simp only [show El.size Int = 1 from rfl, List.length_cons, List.length_nil, eldI]; omega) (idx_lt (n := 12) c55) rfl rfl rfl) (Take.cons _ _ _ _ _ Rem.p2 (Take.nil _)) ?_
 have c56 := ck_l H; replace H := ck_r H
 refine GoP.qN rfl (ps_add rfl rfl rfl c56) ?_
 refine GoP.qN rfl (ps_indexAddrA rfl rfl c53 rfl) ?_
 refine GoP.one1 rfl trivial (ef_store rfl rfl rfl At.p0 (upd_arr1 (α := Int) (i := ((r.n.as.getD k32 El.d).f).toNat) (v := ((f35 ((l13.getD 0 (0 : Int)).toNat)) + 1)) rfl (by simp only [show El.size Int = 1 from rfl, List.length_cons, List.length_nil, eldI]; omega) rfl) Nat.zero_lt_one (blt_of (arr_lt (α := Int) (pre := [.v (.int .i64 r.n.n), .v (.int .i64 r.n.s), .v (.int .i64 r.n.t), slD r.n.as, .own βr_1 1 0 r.f.length]) (i := ((r.n.as.getD k32 El.d).f).toNat) (off := 0) (by simp only [show El.size Int = 1 from rfl, List.length_cons, List.length_nil, eldI]; omega) (idx_lt (n := 12) c53) (by decide) rfl))) (Take.cons _ _ _ _ _ Rem.p0 (Take.cons _ _ _ _ _ Rem.p1 (Take.nil _))) ?_
 refine GoP.done ?_
 refine GoK.code ?_
 refine GoC.region ?_
 refine GoO.pure (ps_move rfl rfl) ?_
 refine GoO.pure (ps_fieldAddr rfl rfl) ?_
 refine GoO.pure (ps_load rfl At.p2 At.p2 Nat.zero_lt_one rfl rfl) ?_
 refine GoO.effB (ef_buildSlice (row ([(r.n.as.getD k32 El.d).f] : List Int)) rfl (Parts.cons _ _ _ _ _ _ _ _ ⟨rfl, rfl⟩ (Part.one _ rfl rfl) rfl rfl (Parts.nil _)) rfl rfl rfl rfl) (fun β57 => ?_)
 have c59 := ck_l H; replace H := ck_r H
 refine GoO.effB (ef_append rfl rfl Rem.p2 (Src.own At.p0 (by first | omega | (simp only [subl_length, cpl_length, List.length_set, List.length_append, List.length_cons, List.length_nil, List.length_replicate, row_len]; omega) | (simp only [subl_length, cpl_length, List.length_set, List.length_append, List.length_cons, List.length_nil, List.length_replicate, row_len]; done))) (cat_row (α := Int) (by first | rfl | omega | (simp only [subl_length, cpl_length, List.length_set, List.length_append, List.length_cons, List.length_nil, List.length_replicate, row_len] <;> first | rfl | omega)) (by first | rfl | omega | (simp only [subl_length, cpl_length, List.length_set, List.length_append, List.length_cons, List.length_nil, List.length_replicate, row_len] <;> first | rfl | omega)) (fun _ _ _ _ => rfl)) (by first | omega | (simp only [subl_length, cpl_length, List.length_set, List.length_append, List.length_cons, List.length_nil, List.length_replicate, row_len]; omega) | (simp only [subl_length, cpl_length, List.length_set, List.length_append, List.length_cons, List.length_nil, List.length_replicate, row_len]; done)) (app_le c59 rfl) rfl rfl rfl) (fun β58 => ?_)
 refine GoO.pure (ps_assign rfl rfl) ?_
 refine GoO.nil ?_
 refine GoK.blk ?_
 refine GoK.code ?_
 refine GoC.region ?_
 refine GoO.pure (ps_add rfl rfl rfl hIk32) ?_
 refine GoO.pure (ps_move rfl rfl) ?_
 refine GoO.nil ?_
 obtain rfl := Option.some.inj H
 exact GoK.againJ m33' (by omega) ⟨_, _, _, β58, ⟨by omega, hF28⟩, rfl, rfl⟩ (EnvD.eq rfl (EnvD.eq rfl (EnvD.cons rfl (DLe.len (by first | rfl | omega | (simp only [row_len, gridC_len, rowO_len, List.length_append, List.length_cons, List.length_nil] <;> first | rfl | omega))) (EnvD.eq rfl (EnvD.eq rfl (EnvD.eq rfl (EnvD.nil))))))) (TkD.cons _ _ _ _ _ Rem.p2 (HLe.arrP rfl ⟨⟨⟨⟨⟨trivial, DLe.refl _⟩, DLe.refl _⟩, DLe.refl _⟩, DLe.refl _⟩, DLe.refl _⟩) (TkD.cons _ _ _ _ _ Rem.p0 (HLe.refl _) (TkD.cons _ _ _ _ _ Rem.p2 (HLe.refl _) (TkD.nil _))))
 replace H := ite_f h54 H
 refine GoC.skip ?_
 refine GoK.blk ?_
 refine GoK.code ?_
 refine GoC.region ?_
 refine GoO.pure (ps_add rfl rfl rfl hIk32) ?_
 refine GoO.pure (ps_move rfl rfl) ?_
 refine GoO.nil ?_
 obtain rfl := Option.some.inj H
 exact GoK.againJ m33' (by omega) ⟨_, _, _, β36, ⟨by omega, hF28⟩, rfl, rfl⟩ (EnvD.eq rfl (EnvD.eq rfl (EnvD.cons rfl (DLe.len (by first | rfl | omega | (simp only [row_len, gridC_len, rowO_len] <;> first | rfl | omega))) (EnvD.eq rfl (EnvD.eq rfl (EnvD.eq rfl (EnvD.nil))))))) (TkD.cons _ _ _ _ _ Rem.p0 (HLe.arrP rfl ⟨⟨⟨⟨⟨trivial, DLe.refl _⟩, DLe.refl _⟩, DLe.refl _⟩, DLe.refl _⟩, DLe.refl _⟩) (TkD.cons _ _ _ _ _ Rem.p0 (HLe.refl _) (TkD.cons _ _ _ _ _ Rem.p1 (HLe.refl _) (TkD.nil _))))
 replace H := ite_f h52 H
 refine GoP.qF rfl rfl rfl rfl rfl ?_
 refine GoP.qF rfl rfl rfl rfl rfl ?_
 refine GoP.qF rfl rfl rfl rfl rfl ?_
 refine GoP.qF rfl rfl rfl rfl rfl ?_
 refine GoP.qF rfl rfl rfl rfl rfl ?_
 refine GoP.qF rfl rfl rfl rfl rfl ?_
 refine GoP.qF rfl rfl rfl rfl rfl ?_
 refine GoP.qF rfl rfl rfl rfl rfl ?_
 refine GoP.qN rfl (ps_pickF rfl rfl rfl) ?_
 refine GoP.done ?_
 refine GoK.code ?_
 refine GoC.condF rfl ?_
 refine GoC.skip ?_
 refine GoK.blk ?_
 refine GoK.code ?_
 refine GoC.region ?_
 refine GoO.pure (ps_add rfl rfl rfl hIk32) ?_
 refine GoO.pure (ps_move rfl rfl) ?_
 refine GoO.nil ?_
 obtain rfl := Option.some.inj H
 exact GoK.againJ m33' (by omega) ⟨_, _, _, β36, ⟨by omega, hF28⟩, rfl, rfl⟩ (EnvD.eq rfl (EnvD.eq rfl (EnvD.cons rfl (DLe.len (by first | rfl | omega | (simp only [row_len, gridC_len, rowO_len] <;> first | rfl | omega))) (EnvD.eq rfl (EnvD.eq rfl (EnvD.eq rfl (EnvD.nil))))))) (TkD.cons _ _ _ _ _ Rem.p0 (HLe.arrP rfl ⟨⟨⟨⟨⟨trivial, DLe.refl _⟩, DLe.refl _⟩, DLe.refl _⟩, DLe.refl _⟩, DLe.refl _⟩) (TkD.cons _ _ _ _ _ Rem.p0 (HLe.refl _) (TkD.cons _ _ _ _ _ Rem.p1 (HLe.refl _) (TkD.nil _))))
 replace H := ite_f h50 H
 refine GoP.qF rfl rfl rfl rfl rfl ?_
 refine GoP.qF rfl rfl rfl rfl rfl ?_
 refine GoP.qF rfl rfl rfl rfl rfl ?_
 refine GoP.qF rfl rfl rfl rfl rfl ?_
 refine GoP.qF rfl rfl rfl rfl rfl ?_
 refine GoP.qF rfl rfl rfl rfl rfl ?_
 refine GoP.qF rfl rfl rfl rfl rfl ?_
 refine GoP.qF rfl rfl rfl rfl rfl ?_
 refine GoP.qN rfl (ps_pickF rfl rfl rfl) ?_
 refine GoP.qN rfl (ps_move rfl rfl) ?_
 refine GoP.qF rfl rfl rfl rfl rfl ?_
 refine GoP.qF rfl rfl rfl rfl rfl ?_
 refine GoP.qF rfl rfl rfl rfl rfl ?_
 refine GoP.qF rfl rfl rfl rfl rfl ?_
 refine GoP.qF rfl rfl rfl rfl rfl ?_
 refine GoP.qF rfl rfl rfl rfl rfl ?_
 refine GoP.qF rfl rfl rfl rfl rfl ?_
 refine GoP.qF rfl rfl rfl rfl rfl ?_
 refine GoP.qN rfl (ps_pickF rfl rfl rfl) ?_
 refine GoP.done ?_
 refine GoK.code ?_
 refine GoC.condF rfl ?_
 refine GoC.skip ?_
 refine GoK.blk ?_
 refine GoK.code ?_
 refine GoC.region ?_
 refine GoO.pure (ps_add rfl rfl rfl hIk32) ?_
 refine GoO.pure (ps_move rfl rfl) ?_
 refine GoO.nil ?_
 obtain rfl := Option.some.inj H
 exact GoK.againJ m33' (by omega) ⟨_, _, _, β36, ⟨by omega, hF28⟩, rfl, rfl⟩ (EnvD.eq rfl (EnvD.eq rfl (EnvD.cons rfl (DLe.len (by first | rfl | omega | (simp only [row_len, gridC_len, rowO_len] <;> first | rfl | omega))) (EnvD.eq rfl (EnvD.eq rfl (EnvD.eq rfl (EnvD.nil))))))) (TkD.cons _ _ _ _ _ Rem.p0 (HLe.arrP rfl ⟨⟨⟨⟨⟨trivial, DLe.refl _⟩, DLe.refl _⟩, DLe.refl _⟩, DLe.refl _⟩, DLe.refl _⟩) (TkD.cons _ _ _ _ _ Rem.p0 (HLe.refl _) (TkD.cons _ _ _ _ _ Rem.p1 (HLe.refl _) (TkD.nil _))))
 obtain rfl : m33 = 0 := by omega
 refine GoC.exit rfl ?_
 cases hF28
 exact GoK.meet ⟨β25, rfl, rfl⟩ (EnvD.eq rfl (EnvD.cons rfl (DLe.len (by first | rfl | omega | (simp only [row_len, gridC_len, rowO_len] <;> first | rfl | omega))) (EnvD.nil))) (TkD.cons _ _ _ _ _ Rem.p0 (HLe.arrP rfl ⟨⟨⟨⟨⟨trivial, DLe.refl _⟩, DLe.refl _⟩, DLe.refl _⟩, DLe.refl _⟩, DLe.refl _⟩) (TkD.cons _ _ _ _ _ Rem.p0 (HLe.refl _) (TkD.cons _ _ _ _ _ Rem.p0 (HLe.refl _) (TkD.nil _))))
 rintro v h ⟨β25, rfl, rfl⟩
 have H := HK27; clear HK27
 refine GoK.blk ?_
 refine GoK.code ?_
 refine GoC.region ?_
 refine GoO.pure (ps_move rfl rfl) ?_
 have c61 := ck_l H; replace H := ck_r H
 refine GoO.pure (ps_slice rfl (Bd.nat _ _ 1 _ rfl) (Bd.no _) c61 (Nat.le_refl _) rfl) ?_
 refine GoO.le (Le.shift At.p1 (by have := c61; first | omega | (simp only [subl_length, cpl_length, List.length_set, List.length_append, List.length_cons, List.length_nil, List.length_replicate, row_len]; omega) | (simp only [subl_length, cpl_length, List.length_set, List.length_append, List.length_cons, List.length_nil, List.length_replicate, row_len, eldI]; omega))) ?_
 refine GoO.le (Le.reH At.p1 (HLe.part (xs := l31) (r := 1 + 0) (len := l31.length - 1) (by have := c61; first | omega | (simp only [subl_length, cpl_length, List.length_set, List.length_append, List.length_cons, List.length_nil, List.length_replicate, row_len]; omega)))) ?_
 generalize (⟨β25.b, β25.o + (1 + 0) * 1, β25.s - (1 + 0)⟩ : BK) = β62
 refine GoO.pure (ps_assign rfl rfl) ?_
 refine GoO.nil ?_
 obtain rfl := Option.some.inj H
 exact GoK.againJ m19' (by omega) ⟨_, _, β62, hF15, rfl, rfl⟩ (EnvD.eq rfl (EnvD.cons rfl (DLe.len (by first | rfl | omega | (simp only [row_len, gridC_len, rowO_len, subl_length] <;> first | rfl | omega))) (EnvD.nil))) (TkD.cons _ _ _ _ _ Rem.p0 (HLe.arrP rfl ⟨⟨⟨⟨⟨trivial, DLe.refl _⟩, DLe.refl _⟩, DLe.refl _⟩, DLe.refl _⟩, DLe.refl _⟩) (TkD.cons _ _ _ _ _ Rem.p0 (HLe.refl _) (TkD.cons _ _ _ _ _ Rem.p0 (HLe.refl _) (TkD.nil _))))
 replace H := ite_f h21 H
 refine GoC.exit rfl ?_
 obtain rfl := Option.some.inj H
 obtain rfl := Option.some.inj hF15
 exact GoK.meet ⟨_, _, β12, rfl, rfl, rfl⟩ (EnvD.eq rfl (EnvD.nil)) (TkD.cons _ _ _ _ _ Rem.p0 (HLe.arrP rfl ⟨⟨⟨⟨⟨trivial, DLe.refl _⟩, DLe.refl _⟩, DLe.refl _⟩, DLe.refl _⟩, DLe.refl _⟩) (TkD.cons _ _ _ _ _ Rem.p0 (HLe.refl _) (TkD.cons _ _ _ _ _ Rem.p0 (HLe.refl _) (TkD.nil _))))
 rintro v h ⟨f17, l18, β12, rfl, rfl, rfl⟩
 have H := HK14; clear HK14
 refine GoK.code ?_
 refine GoC.seq ?_
 refine GoC.drawA (.q 0 (.q 1 (.q 2 (.q 3 (.q 4 (.q 5 (.q 6 (.q 7 (.q 8 (.q 9 (.q 10 (.q 11 (.done))))))))))))) follows (by kernel_rfl) ?_
 refine GoP.qN rfl (ps_move rfl rfl) ?_
 refine GoP.qN rfl (ps_move rfl rfl) ?_
 refine GoP.qN rfl (ps_nilCheck rfl rfl) ?_
 refine GoP.qN rfl (ps_fieldAddr rfl rfl) ?_
 refine GoP.qN rfl (ps_fieldAddr rfl rfl) ?_
 refine GoP.qN rfl (ps_load rfl At.p0 At.p0 Nat.zero_lt_one rfl rfl) ?_
 refine GoP.qN rfl (ps_nilCheck rfl rfl) ?_
 refine GoP.qN rfl (ps_fieldAddr rfl rfl) ?_
 have c64 := ck_l H; replace H := ck_r H
 refine GoP.qN rfl (ps_indexAddrA rfl rfl c64 rfl) ?_
 refine GoP.qN rfl (ps_loadA (α := Int) (i := r.n.t.toNat) (off := 0) rfl At.p0 At.p0 (by simp only [show El.size Int = 1 from rfl, List.length_cons, List.length_nil, eldI]; omega) (idx_lt (n := 12) c64) rfl rfl rfl) ?_
 refine GoP.qN rfl (ps_geq rfl rfl rfl) ?_
 refine GoP.qN rfl (ps_assign rfl rfl) ?_
 refine GoP.done ?_
 refine GoK.code ?_
 obtain rfl := Option.some.inj H
 exact GoC.retL (ds := [.v (.bool (decide (0 ≤ (f17 r.n.t.toNat))))]) Try.results73 (ResL.cons (ResD.tmp rfl) (ResL.nil)) (Take.cons _ _ _ _ _ Rem.p0 (Take.cons _ _ _ _ _ Rem.p1 (Take.nil _))) ⟨βr_1, rfl, rfl⟩

def level_send_B1 (rec : (Run → Int → Int → Option (Int × Run))) (r : Run) (at_ : Int) (most : Int) : Nat → ((List Int) × (Nat → Int) × Int) → Option ((List Int) × (Nat → Int) × Int) := fun k14 (l5, f6, x7) =>
 ((
  if ((r.n.as.getD k14 El.d).f) = at_ then
   ck (0 ≤ (r.n.as.getD k14 El.d).t ∧ (r.n.as.getD k14 El.d).t < 12) <|
   ck (0 ≤ at_ ∧ at_ < 12) <|
   ck (InI ((f6 at_.toNat) + 1)) <|
   if (f6 (((r.n.as.getD k14 El.d).t).toNat)) = ((f6 at_.toNat) + 1) then
    ck (InI (most - x7)) <|
    ck (k14 < l5.length) <|
    ck (InI (((r.n.as.getD k14 El.d).c) - (l5.getD k14 (0 : Int)))) <|
    (rec (⟨(⟨r.n.n, r.n.s, r.n.t, r.n.as⟩ : Net), l5, f6⟩ : Run) ((r.n.as.getD k14 El.d).t) (min (most - x7) (((r.n.as.getD k14 El.d).c) - (l5.getD k14 (0 : Int))))).bind fun (r31, x32) =>
    ck (k14 < x32.f.length) <|
    ck (InI ((x32.f.getD k14 (0 : Int)) + r31)) <|
    ck (InI (x7 + r31)) <|
    some ((x32.f.set k14 ((x32.f.getD k14 (0 : Int)) + r31)), x32.level, (x7 + r31))
   else
    some (l5, f6, x7)
  else
   some (l5, f6, x7)) : Option ((List Int) × (Nat → Int) × Int)).bind fun (l18, f19, x20) =>
 if ((r.n.as.getD k14 El.d).t) = at_ then
  ck (0 ≤ (r.n.as.getD k14 El.d).f ∧ (r.n.as.getD k14 El.d).f < 12) <|
  ck (0 ≤ at_ ∧ at_ < 12) <|
  ck (InI ((f19 at_.toNat) + 1)) <|
  if (f19 (((r.n.as.getD k14 El.d).f).toNat)) = ((f19 at_.toNat) + 1) then
   ck (InI (most - x20)) <|
   ck (k14 < l18.length) <|
   (rec (⟨(⟨r.n.n, r.n.s, r.n.t, r.n.as⟩ : Net), l18, f19⟩ : Run) ((r.n.as.getD k14 El.d).f) (min (most - x20) (l18.getD k14 (0 : Int)))).bind fun (r45, x46) =>
   ck (k14 < x46.f.length) <|
   ck (InI ((x46.f.getD k14 (0 : Int)) - r45)) <|
   ck (InI (x20 + r45)) <|
   some ((x46.f.set k14 ((x46.f.getD k14 (0 : Int)) - r45)), x46.level, (x20 + r45))
  else
   some (l18, f19, x20)
 else
  some (l18, f19, x20)
def level_send_S (rec : Run → Int → Int → Option (Int × Run)) (r : Run) (at_ : Int) (most : Int) : Option (Int × Run) :=
 if at_ = r.n.t then
  some (most, (⟨(⟨r.n.n, r.n.s, r.n.t, r.n.as⟩ : Net), r.f, r.level⟩ : Run))
 else
  if most = 0 then
   some (most, (⟨(⟨r.n.n, r.n.s, r.n.t, r.n.as⟩ : Net), r.f, r.level⟩ : Run))
  else
   (forN (level_send_B1 rec r at_ most) r.n.as.length 0 (r.f, r.level, 0)).bind fun (l11, f12, x13) =>
   if x13 = 0 then
    ck (0 ≤ at_ ∧ at_ < 12) <|
    some (x13, (⟨(⟨r.n.n, r.n.s, r.n.t, r.n.as⟩ : Net), l11, (updF f12 at_.toNat (-1))⟩ : Run))
   else
    some (x13, (⟨(⟨r.n.n, r.n.s, r.n.t, r.n.as⟩ : Net), l11, f12⟩ : Run))
def level_send_F : Nat → Run → Int → Int → Option (Int × Run)
 | 0 => fun _ _ _ => none
 | fuel + 1 => level_send_S (level_send_F fuel)
def level_send_P (out : Int × Run) (βr : BK) (βr_1 : BK) (κ1 : Net) (d : D) (H : List HL) : Prop := ∃ βx1 : BK, d = .v (.int .i64 out.1) ∧ H = [.one βr 100 17 (arrC (α := Int) [.v (.int .i64 κ1.n), .v (.int .i64 κ1.s), .v (.int .i64 κ1.t), slD κ1.as, .own βx1 1 0 out.2.f.length] out.2.level), .one βx1 3 1 (row out.2.f)]
set_option maxRecDepth 100000 in
set_option maxHeartbeats 4000000 in
theorem level_send_spec : ∀ (fuel : Nat) (r : Run) (at_ : Int) (most : Int) (βr : BK) (βr_1 : BK) {out : Int × Run} (H : level_send_F fuel r at_ most = some out), Does Try.prog 74 [.ptr βr 17 0 0, .v (.int .i64 at_), .v (.int .i64 most)] [.one βr 100 17 (arrC (α := Int) [.v (.int .i64 r.n.n), .v (.int .i64 r.n.s), .v (.int .i64 r.n.t), slD r.n.as, .own βr_1 1 0 r.f.length] r.level), .one βr_1 3 1 (row r.f)] (level_send_P out βr βr_1 r.n) := by
 intro fuel
 induction fuel with
 | zero => intro r at_ most βr βr_1 out H; cases H
 | succ fuel ih =>
 intro r at_ most βr βr_1 out H
 replace H : level_send_S (level_send_F fuel) r at_ most = some out := H
 generalize level_send_F fuel = rec at ih H
 unfold level_send_S at H
 refine Does.intro Try.func74 rfl Try.ntmps74 rfl fun w0 I0 => ?_
 refine GoC.seq ?_
 refine GoC.region ?_
 refine GoO.pure (ps_assign rfl rfl) ?_
 refine GoO.nil ?_
 refine GoK.code ?_
 refine GoC.seq ?_
 refine GoC.seq ?_
 refine GoC.region ?_
 refine GoO.pure (ps_move rfl rfl) ?_
 refine GoO.pure (ps_move rfl rfl) ?_
 refine GoO.pure (ps_nilCheck rfl rfl) ?_
 refine GoO.pure (ps_fieldAddr rfl rfl) ?_
 refine GoO.pure (ps_fieldAddr rfl rfl) ?_
 refine GoO.pure (ps_load rfl At.p0 At.p0 Nat.zero_lt_one rfl rfl) ?_
 refine GoO.pure (ps_eql rfl rfl rfl) ?_
 refine GoO.pure (ps_move rfl rfl) ?_
 refine GoO.guardE rfl rfl rfl rfl (fun h1 => ?_) (fun h1 => ?_)
 replace H := ite_f h1 H
 refine GoO.pure (ps_move rfl rfl) ?_
 refine GoO.guardT rfl rfl rfl ?_
 refine GoO.pure (ps_eql rfl rfl rfl) ?_
 refine GoO.pure (ps_pickF rfl rfl rfl) ?_
 refine GoO.nil ?_
 refine GoK.code ?_
 refine GoC.condD rfl (fun h2 => ?_) (fun h2 => ?_)
 replace H := ite_t h2 H
 refine GoC.seq ?_
 refine GoC.region ?_
 refine GoO.pure (ps_move rfl rfl) ?_
 refine GoO.pure (ps_assign rfl rfl) ?_
 refine GoO.nil ?_
 refine GoK.code ?_
 obtain rfl := Option.some.inj H
 exact GoC.retL (ds := [.v (.int .i64 most)]) Try.results74 (ResL.cons (ResD.tmp rfl) (ResL.nil)) (Take.cons _ _ _ _ _ Rem.p0 (Take.cons _ _ _ _ _ Rem.p0 (Take.nil _))) ⟨βr_1, rfl, rfl⟩
 replace H := ite_f h2 H
 refine GoC.skip ?_
 refine GoK.code ?_
 refine GoC.seq ?_
 refine GoC.region ?_
 refine GoO.pure (ps_assign rfl rfl) ?_
 refine GoO.nil ?_
 refine GoK.code ?_
 refine GoC.seq ?_
 refine GoC.seq ?_
 refine GoC.region ?_
 refine GoO.pure (ps_move rfl rfl) ?_
 refine GoO.pure (ps_nilCheck rfl rfl) ?_
 refine GoO.pure (ps_fieldAddr rfl rfl) ?_
 refine GoO.pure (ps_fieldAddr rfl rfl) ?_
 refine GoO.pure (ps_load rfl At.p0 At.p0 Nat.zero_lt_one rfl rfl) ?_
 refine GoO.pure (ps_len rfl (by constructor) rfl) ?_
 refine GoO.lenLe (n := r.n.as.length) (x := .tmp 28) rfl (by constructor) sl_lenLe (fun ml3 => ?_)
 refine GoO.pure (ps_move rfl rfl) ?_
 refine GoO.nil ?_
 refine GoK.code ?_
 have hb := bind_l H; clear H
 obtain ⟨⟨l11, f12, x13⟩, hl52, HK8⟩ := hb
 refine GoC.blockJ [(1, .v (.int .i64 at_))] [] (fun v h => ∃ (β4 : BK), v = [(0, .ptr βr 17 0 0), (7, .v (.int .i64 x13))] ∧ h = [.one β4 3 1 (row l11), .one βr 100 17 (arrC (α := Int) [.v (.int .i64 r.n.n), .v (.int .i64 r.n.s), .v (.int .i64 r.n.t), slD r.n.as, .own β4 1 0 l11.length] f12)]) ?_ ?_
 refine GoC.loopJ [(1, _), (2, _), (28, _), (29, _)] [] (fun mQ v h => ∃ (k14 : Nat) (l5 : (List Int)) (f6 : (Nat → Int)) (x7 : Int) (β4 : BK), (k14 + mQ = r.n.as.length ∧ forN (level_send_B1 rec r at_ most) mQ k14 (l5, f6, x7) = some (l11, f12, x13)) ∧ v = [(30, .v (.int .i64 ((k14 : Nat) : Int))), (0, .ptr βr 17 0 0), (7, .v (.int .i64 x7))] ∧ h = [.one β4 3 1 (row l5), .one βr 100 17 (arrC (α := Int) [.v (.int .i64 r.n.n), .v (.int .i64 r.n.s), .v (.int .i64 r.n.t), slD r.n.as, .own β4 1 0 l5.length] f6)]) r.n.as.length ⟨_, _, _, _, βr_1, ⟨by omega, hl52⟩, rfl, rfl⟩ (EnvD.eq rfl (EnvD.eq rfl (EnvD.eq rfl (EnvD.eq rfl (EnvD.eq rfl (EnvD.eq rfl (EnvD.eq rfl (EnvD.nil)))))))) (TkD.cons _ _ _ _ _ Rem.p1 (HLe.refl _) (TkD.cons _ _ _ _ _ Rem.p0 (HLe.arrP rfl ⟨⟨⟨⟨⟨trivial, DLe.refl _⟩, DLe.refl _⟩, DLe.refl _⟩, DLe.refl _⟩, DLe.len (by first | rfl | omega | (simp only [row_len, gridC_len, rowO_len] <;> first | rfl | omega))⟩) (TkD.nil _))) ?_
 rintro m15 v h ⟨k14, l5, f6, x7, β4, ⟨hkk14, hF9⟩, rfl, rfl⟩
 refine GoC.seq ?_
 refine GoC.region ?_
 refine GoO.pure (ps_lss rfl rfl rfl) ?_
 refine GoO.nil ?_
 refine GoK.code ?_
 refine GoC.seq ?_
 refine GoC.condD rfl (fun (hk14 : (k14 : Int) < ((r.n.as.length : Nat) : Int)) => ?_) (fun (hk14 : ¬ (k14 : Int) < ((r.n.as.length : Nat) : Int)) => ?_)
 obtain ⟨m15', rfl⟩ : ∃ x, m15 = x + 1 := ⟨m15 - 1, by omega⟩
 have hb := bind_l hF9; clear hF9
 obtain ⟨qrm15, H, hF9⟩ := hb
 have hnk14 : k14 < r.n.as.length := by omega
 have hIk14 : InI ((k14 : Int) + 1) := inI_len hk14 ml3
 refine GoC.skip ?_
 refine GoK.code ?_
 refine GoC.seq ?_
 refine GoC.block ?_
 refine GoC.seq ?_
 refine GoC.region ?_
 refine GoO.pure (ps_move rfl rfl) ?_
 refine GoO.pure (ps_indexAddrRN rfl rfl hnk14 rfl) ?_
 refine GoO.pure (ps_loadAgR rfl hnk14 rfl rfl) ?_
 refine GoO.effB (ef_alloc rfl) (fun β16 => ?_)
 refine GoO.pure (ps_assign rfl rfl) ?_
 refine GoO.eff1 (ef_storeAg rfl rfl At.p0 upd_whole Nat.zero_lt_one rfl) ?_
 refine GoO.nil ?_
 refine GoK.code ?_
 have hb := bind_l H; clear H
 obtain ⟨⟨l18, f19, x20⟩, H, HK21⟩ := hb
 refine GoC.seqJ [(1, .v (.int .i64 at_)), (2, .v (.int .i64 most)), (8, .v (.int .i64 ((k14 : Nat) : Int))), (9, .ptr β16 3 0 0), (28, slD r.n.as), (29, .v (.int .i64 ((r.n.as.length : Nat) : Int))), (30, .v (.int .i64 ((k14 : Nat) : Int)))] [.one β16 39 3 (st1 (nth [.v (.int .i64 ((r.n.as.getD k14 El.d).f)), .v (.int .i64 ((r.n.as.getD k14 El.d).t)), .v (.int .i64 ((r.n.as.getD k14 El.d).c))]))] (fun v h => ∃ (β17 : BK), v = [(0, .ptr βr 17 0 0), (7, .v (.int .i64 x20))] ∧ h = [.one β17 3 1 (row l18), .one βr 100 17 (arrC (α := Int) [.v (.int .i64 r.n.n), .v (.int .i64 r.n.s), .v (.int .i64 r.n.t), slD r.n.as, .own β17 1 0 l18.length] f19)]) ?_ ?_
 refine GoC.seq ?_
 refine GoC.drawA (.q 0 (.q 1 (.q 2 (.q 3 (.q 4 (.q 5 (.q 6 (.q 7 (.q 8 (.q 9 (.q 10 (.q 11 (.q 12 (.q 13 (.q 14 (.q 15 (.q 16 (.q 17 (.q 18 (.q 19 (.q 20 (.done)))))))))))))))))))))) follows (by kernel_rfl) ?_
 refine GoP.qN rfl (ps_fieldAddr rfl rfl) ?_
 refine GoP.qN rfl (ps_load rfl At.p0 At.p0 Nat.zero_lt_one rfl rfl) ?_
 refine GoP.qN rfl (ps_move rfl rfl) ?_
 refine GoP.qN rfl (ps_eql rfl rfl rfl) ?_
 refine GoP.qN rfl (ps_move rfl rfl) ?_
 refine GoP.decideD 39 rfl (fun h23 => ?_) (fun h23 => ?_)
 replace H := ite_t h23 H
 refine GoP.qT rfl rfl rfl rfl (ps_move rfl rfl) ?_
 refine GoP.qT rfl rfl rfl rfl (ps_fieldAddr rfl rfl) ?_
 refine GoP.qT rfl rfl rfl rfl (ps_load rfl At.p0 At.p0 Nat.zero_lt_one rfl rfl) ?_
 refine GoP.qT rfl rfl rfl rfl (ps_nilCheck rfl rfl) ?_
 refine GoP.qT rfl rfl rfl rfl (ps_fieldAddr rfl rfl) ?_
 have c24 := ck_l H; replace H := ck_r H
 refine GoP.qT rfl rfl rfl rfl (ps_indexAddrA rfl rfl c24 rfl) ?_
 refine GoP.qT rfl rfl rfl rfl (ps_loadA (α := Int) (i := ((r.n.as.getD k14 El.d).t).toNat) (off := 0) rfl At.p2 At.p2 (by simp only [show El.size Int = 1 from rfl, List.length_cons, List.length_nil, eldI]; omega) (idx_lt (n := 12) c24) rfl rfl rfl) ?_
 refine GoP.qT rfl rfl rfl rfl (ps_move rfl rfl) ?_
 refine GoP.qT rfl rfl rfl rfl (ps_move rfl rfl) ?_
 refine GoP.qT rfl rfl rfl rfl (ps_nilCheck rfl rfl) ?_
 refine GoP.qT rfl rfl rfl rfl (ps_fieldAddr rfl rfl) ?_
 have c25 := ck_l H; replace H := ck_r H
 refine GoP.qT rfl rfl rfl rfl (ps_indexAddrA rfl rfl c25 rfl) ?_
 refine GoP.qT rfl rfl rfl rfl (ps_loadA (α := Int) (i := at_.toNat) (off := 0) rfl At.p2 At.p2 (by simp only [show El.size Int = 1 from rfl, List.length_cons, List.length_nil, eldI]; omega) (idx_lt (n := 12) c25) rfl rfl rfl) ?_
 have c26 := ck_l H; replace H := ck_r H
 refine GoP.qT rfl rfl rfl rfl (ps_add rfl rfl rfl c26) ?_
 refine GoP.qT rfl rfl rfl rfl (ps_eql rfl rfl rfl) ?_
 refine GoP.qN rfl (ps_pickT rfl rfl rfl) ?_
 refine GoP.done ?_
 refine GoK.code ?_
 refine GoC.condD rfl (fun h27 => ?_) (fun h27 => ?_)
 replace H := ite_t h27 H
 refine GoC.seq ?_
 refine GoC.drawP (.q 0 (.q 1 (.q 2 (.q 3 (.q 4 (.q 5 (.q 6 (.q 7 (.q 8 (.q 9 (.q 10 (.q 12 (.one 11 (.q 13 (.one 14 (.q 15 (.q 16 (.one 17 (.q 18 (.done)))))))))))))))))))) [(9, _, _, _)] follows (by kernel_rfl) (Take.cons _ _ _ _ _ Rem.p0 (Take.nil _)) ?_
 refine GoP.qN rfl (ps_move rfl rfl) ?_
 refine GoP.qN rfl (ps_fieldAddr rfl rfl) ?_
 refine GoP.qN rfl (ps_load rfl At.p0 At.p0 Nat.zero_lt_one rfl rfl) ?_
 refine GoP.qN rfl (ps_move rfl rfl) ?_
 refine GoP.qN rfl (ps_move rfl rfl) ?_
 have c28 := ck_l H; replace H := ck_r H
 refine GoP.qN rfl (ps_sub rfl rfl rfl c28) ?_
 refine GoP.qN rfl (ps_fieldAddr rfl rfl) ?_
 refine GoP.qN rfl (ps_load rfl At.p0 At.p0 Nat.zero_lt_one rfl rfl) ?_
 refine GoP.qN rfl (ps_move rfl rfl) ?_
 refine GoP.qN rfl (ps_nilCheck rfl rfl) ?_
 refine GoP.qN rfl (ps_fieldAddr rfl rfl) ?_
 refine GoP.qN rfl (ps_move rfl rfl) ?_
 refine GoP.oneN rfl (ps_load rfl At.p2 At.p2 Nat.zero_lt_one rfl rfl) (Take.cons _ _ _ _ _ Rem.p0 (Take.nil _)) ?_
 have c29 := ck_l H; replace H := ck_r H
 refine GoP.qN rfl (ps_indexAddr0N rfl rfl c29 rfl) ?_
 refine GoP.oneN rfl (ps_load rfl At.p1 At.p1 c29 rfl rfl) (Take.cons _ _ _ _ _ Rem.p0 (Take.nil _)) ?_
 have c30 := ck_l H; replace H := ck_r H
 refine GoP.qN rfl (ps_sub rfl rfl rfl c30) ?_
 refine GoP.qN rfl (ps_min rfl rfl rfl) ?_
 have hb := bind_l H; clear H
 obtain ⟨⟨r31, x32⟩, e33, H⟩ := hb
 refine GoP.oneCF rfl rfl (Take.cons _ _ _ _ _ Rem.p2 (Take.cons _ _ _ _ _ Rem.p1 (Take.nil _))) (Take.nil _) (ih (⟨(⟨r.n.n, r.n.s, r.n.t, r.n.as⟩ : Net), l5, f6⟩ : Run) ((r.n.as.getD k14 El.d).t) (min (most - x7) (((r.n.as.getD k14 El.d).c) - (l5.getD k14 (0 : Int)))) βr β4 e33) (LendL.cons (Lend.refl _ _) (LendL.cons (Lend.refl _ _) (LendL.cons (Lend.refl _ _) (LendL.nil)))) rfl nil_fps (Take.cons _ _ _ _ _ Rem.p2 (Take.cons _ _ _ _ _ Rem.p1 (Take.cons _ _ _ _ _ Rem.p0 (Take.nil _)))) (fun rr HH hp => ?_)
 obtain ⟨β34, rfl, rfl⟩ := hp
 refine GoV.qN rfl (pv_assign rfl rfl) ?_
 refine GoV.done ?_
 refine GoK.code ?_
 refine GoC.seq ?_
 refine GoC.region ?_
 refine GoO.pure (ps_move rfl rfl) ?_
 refine GoO.pure (ps_nilCheck rfl rfl) ?_
 refine GoO.pure (ps_fieldAddr rfl rfl) ?_
 refine GoO.pure (ps_load rfl At.p0 At.p0 Nat.zero_lt_one rfl rfl) ?_
 refine GoO.pure (ps_move rfl rfl) ?_
 have c35 := ck_l H; replace H := ck_r H
 refine GoO.pure (ps_indexAddr0N rfl rfl c35 rfl) ?_
 refine GoO.pure (ps_load rfl At.p1 At.p1 c35 rfl rfl) ?_
 refine GoO.pure (ps_move rfl rfl) ?_
 have c36 := ck_l H; replace H := ck_r H
 refine GoO.pure (ps_add rfl rfl rfl c36) ?_
 refine GoO.pure (ps_indexAddr0N rfl rfl c35 rfl) ?_
 refine GoO.eff1 (ef_store rfl rfl rfl At.p1 (upd_row1 (v := ((x32.f.getD k14 (0 : Int)) + r31)) rfl) c35 rfl) ?_
 refine GoO.nil ?_
 refine GoK.code ?_
 refine GoC.region ?_
 refine GoO.pure (ps_move rfl rfl) ?_
 refine GoO.pure (ps_move rfl rfl) ?_
 have c37 := ck_l H; replace H := ck_r H
 refine GoO.pure (ps_add rfl rfl rfl c37) ?_
 refine GoO.pure (ps_assign rfl rfl) ?_
 refine GoO.nil ?_
 cases H
 exact GoK.meet ⟨β34, rfl, rfl⟩ (EnvD.eq rfl (EnvD.eq rfl (EnvD.eq rfl (EnvD.eq rfl (EnvD.eq rfl (EnvD.eq rfl (EnvD.eq rfl (EnvD.eq rfl (EnvD.eq rfl (EnvD.nil)))))))))) (TkD.cons _ _ _ _ _ Rem.p1 (HLe.refl _) (TkD.cons _ _ _ _ _ Rem.p0 (HLe.arrP rfl ⟨⟨⟨⟨⟨trivial, DLe.refl _⟩, DLe.refl _⟩, DLe.refl _⟩, DLe.refl _⟩, DLe.len (by first | rfl | omega | (simp only [row_len, gridC_len, rowO_len, List.length_set] <;> first | rfl | omega))⟩) (TkD.cons _ _ _ _ _ Rem.p0 (HLe.st ⟨⟨⟨trivial, DLe.refl _⟩, DLe.refl _⟩, DLe.refl _⟩) (TkD.nil _))))
 replace H := ite_f h27 H
 refine GoC.skip ?_
 cases H
 exact GoK.meet ⟨β4, rfl, rfl⟩ (EnvD.eq rfl (EnvD.eq rfl (EnvD.eq rfl (EnvD.eq rfl (EnvD.eq rfl (EnvD.eq rfl (EnvD.eq rfl (EnvD.eq rfl (EnvD.eq rfl (EnvD.nil)))))))))) (TkD.cons _ _ _ _ _ Rem.p1 (HLe.refl _) (TkD.cons _ _ _ _ _ Rem.p1 (HLe.arrP rfl ⟨⟨⟨⟨⟨trivial, DLe.refl _⟩, DLe.refl _⟩, DLe.refl _⟩, DLe.refl _⟩, DLe.len (by first | rfl | omega | (simp only [row_len, gridC_len, rowO_len] <;> first | rfl | omega))⟩) (TkD.cons _ _ _ _ _ Rem.p0 (HLe.st ⟨⟨⟨trivial, DLe.refl _⟩, DLe.refl _⟩, DLe.refl _⟩) (TkD.nil _))))
 replace H := ite_f h23 H
 refine GoP.qF rfl rfl rfl rfl rfl ?_
 refine GoP.qF rfl rfl rfl rfl rfl ?_
 refine GoP.qF rfl rfl rfl rfl rfl ?_
 refine GoP.qF rfl rfl rfl rfl rfl ?_
 refine GoP.qF rfl rfl rfl rfl rfl ?_
 refine GoP.qF rfl rfl rfl rfl rfl ?_
 refine GoP.qF rfl rfl rfl rfl rfl ?_
 refine GoP.qF rfl rfl rfl rfl rfl ?_
 refine GoP.qF rfl rfl rfl rfl rfl ?_
 refine GoP.qF rfl rfl rfl rfl rfl ?_
 refine GoP.qF rfl rfl rfl rfl rfl ?_
 refine GoP.qF rfl rfl rfl rfl rfl ?_
 refine GoP.qF rfl rfl rfl rfl rfl ?_
 refine GoP.qF rfl rfl rfl rfl rfl ?_
 refine GoP.qF rfl rfl rfl rfl rfl ?_
 refine GoP.qN rfl (ps_pickF rfl rfl rfl) ?_
 refine GoP.done ?_
 refine GoK.code ?_
 refine GoC.condF rfl ?_
 refine GoC.skip ?_
 cases H
 exact GoK.meet ⟨β4, rfl, rfl⟩ (EnvD.eq rfl (EnvD.eq rfl (EnvD.eq rfl (EnvD.eq rfl (EnvD.eq rfl (EnvD.eq rfl (EnvD.eq rfl (EnvD.eq rfl (EnvD.eq rfl (EnvD.nil)))))))))) (TkD.cons _ _ _ _ _ Rem.p1 (HLe.refl _) (TkD.cons _ _ _ _ _ Rem.p1 (HLe.arrP rfl ⟨⟨⟨⟨⟨trivial, DLe.refl _⟩, DLe.refl _⟩, DLe.refl _⟩, DLe.refl _⟩, DLe.len (by first | rfl | omega | (simp only [row_len, gridC_len, rowO_len] <;> first | rfl | omega))⟩) (TkD.cons _ _ _ _ _ Rem.p0 (HLe.st ⟨⟨⟨trivial, DLe.refl _⟩, DLe.refl _⟩, DLe.refl _⟩) (TkD.nil _))))
 rintro v h ⟨β17, rfl, rfl⟩
 have H := HK21; clear HK21
 refine GoC.seq ?_
 refine GoC.drawA (.q 0 (.q 1 (.q 2 (.q 3 (.q 4 (.q 5 (.q 6 (.q 7 (.q 8 (.q 9 (.q 10 (.q 11 (.q 12 (.q 13 (.q 14 (.q 15 (.q 16 (.q 17 (.q 18 (.q 19 (.q 20 (.done)))))))))))))))))))))) follows (by kernel_rfl) ?_
 refine GoP.qN rfl (ps_fieldAddr rfl rfl) ?_
 refine GoP.qN rfl (ps_load rfl At.p2 At.p2 Nat.zero_lt_one rfl rfl) ?_
 refine GoP.qN rfl (ps_move rfl rfl) ?_
 refine GoP.qN rfl (ps_eql rfl rfl rfl) ?_
 refine GoP.qN rfl (ps_move rfl rfl) ?_
 refine GoP.decideD 91 rfl (fun h38 => ?_) (fun h38 => ?_)
 replace H := ite_t h38 H
 refine GoP.qT rfl rfl rfl rfl (ps_move rfl rfl) ?_
 refine GoP.qT rfl rfl rfl rfl (ps_fieldAddr rfl rfl) ?_
 refine GoP.qT rfl rfl rfl rfl (ps_load rfl At.p2 At.p2 Nat.zero_lt_one rfl rfl) ?_
 refine GoP.qT rfl rfl rfl rfl (ps_nilCheck rfl rfl) ?_
 refine GoP.qT rfl rfl rfl rfl (ps_fieldAddr rfl rfl) ?_
 have c39 := ck_l H; replace H := ck_r H
 refine GoP.qT rfl rfl rfl rfl (ps_indexAddrA rfl rfl c39 rfl) ?_
 refine GoP.qT rfl rfl rfl rfl (ps_loadA (α := Int) (i := ((r.n.as.getD k14 El.d).f).toNat) (off := 0) rfl At.p1 At.p1 (by simp only [show El.size Int = 1 from rfl, List.length_cons, List.length_nil, eldI]; omega) (idx_lt (n := 12) c39) rfl rfl rfl) ?_
 refine GoP.qT rfl rfl rfl rfl (ps_move rfl rfl) ?_
 refine GoP.qT rfl rfl rfl rfl (ps_move rfl rfl) ?_
 refine GoP.qT rfl rfl rfl rfl (ps_nilCheck rfl rfl) ?_
 refine GoP.qT rfl rfl rfl rfl (ps_fieldAddr rfl rfl) ?_
 have c40 := ck_l H; replace H := ck_r H
 refine GoP.qT rfl rfl rfl rfl (ps_indexAddrA rfl rfl c40 rfl) ?_
 refine GoP.qT rfl rfl rfl rfl (ps_loadA (α := Int) (i := at_.toNat) (off := 0) rfl At.p1 At.p1 (by simp only [show El.size Int = 1 from rfl, List.length_cons, List.length_nil, eldI]; omega) (idx_lt (n := 12) c40) rfl rfl rfl) ?_
 have c41 := ck_l H; replace H := ck_r H
 refine GoP.qT rfl rfl rfl rfl (ps_add rfl rfl rfl c41) ?_
 refine GoP.qT rfl rfl rfl rfl (ps_eql rfl rfl rfl) ?_
 refine GoP.qN rfl (ps_pickT rfl rfl rfl) ?_
 refine GoP.done ?_
 refine GoK.code ?_
 refine GoC.condD rfl (fun h42 => ?_) (fun h42 => ?_)
 replace H := ite_t h42 H
 refine GoC.seq ?_
 refine GoC.drawP (.q 0 (.q 1 (.q 2 (.q 3 (.q 4 (.q 5 (.q 6 (.q 7 (.q 8 (.q 10 (.one 9 (.q 11 (.one 12 (.q 13 (.one 14 (.q 15 (.done))))))))))))))))) [(9, _, _, _)] follows (by kernel_rfl) (Take.cons _ _ _ _ _ Rem.p2 (Take.nil _)) ?_
 refine GoP.qN rfl (ps_move rfl rfl) ?_
 refine GoP.qN rfl (ps_fieldAddr rfl rfl) ?_
 refine GoP.qN rfl (ps_load rfl At.p2 At.p0 Nat.zero_lt_one rfl rfl) ?_
 refine GoP.qN rfl (ps_move rfl rfl) ?_
 refine GoP.qN rfl (ps_move rfl rfl) ?_
 have c43 := ck_l H; replace H := ck_r H
 refine GoP.qN rfl (ps_sub rfl rfl rfl c43) ?_
 refine GoP.qN rfl (ps_move rfl rfl) ?_
 refine GoP.qN rfl (ps_nilCheck rfl rfl) ?_
 refine GoP.qN rfl (ps_fieldAddr rfl rfl) ?_
 refine GoP.qN rfl (ps_move rfl rfl) ?_
 refine GoP.oneN rfl (ps_load rfl At.p1 At.p1 Nat.zero_lt_one rfl rfl) (Take.cons _ _ _ _ _ Rem.p2 (Take.nil _)) ?_
 have c44 := ck_l H; replace H := ck_r H
 refine GoP.qN rfl (ps_indexAddr0N rfl rfl c44 rfl) ?_
 refine GoP.oneN rfl (ps_load rfl At.p0 At.p0 c44 rfl rfl) (Take.cons _ _ _ _ _ Rem.p2 (Take.nil _)) ?_
 refine GoP.qN rfl (ps_min rfl rfl rfl) ?_
 have hb := bind_l H; clear H
 obtain ⟨⟨r45, x46⟩, e47, H⟩ := hb
 refine GoP.oneCF rfl rfl (Take.cons _ _ _ _ _ Rem.p1 (Take.cons _ _ _ _ _ Rem.p0 (Take.nil _))) (Take.nil _) (ih (⟨(⟨r.n.n, r.n.s, r.n.t, r.n.as⟩ : Net), l18, f19⟩ : Run) ((r.n.as.getD k14 El.d).f) (min (most - x20) (l18.getD k14 (0 : Int))) βr β17 e47) (LendL.cons (Lend.refl _ _) (LendL.cons (Lend.refl _ _) (LendL.cons (Lend.refl _ _) (LendL.nil)))) rfl nil_fps (Take.cons _ _ _ _ _ Rem.p1 (Take.cons _ _ _ _ _ Rem.p0 (Take.cons _ _ _ _ _ Rem.p0 (Take.nil _)))) (fun rr HH hp => ?_)
 obtain ⟨β48, rfl, rfl⟩ := hp
 refine GoV.qN rfl (pv_assign rfl rfl) ?_
 refine GoV.done ?_
 refine GoK.code ?_
 refine GoC.seq ?_
 refine GoC.region ?_
 refine GoO.pure (ps_move rfl rfl) ?_
 refine GoO.pure (ps_nilCheck rfl rfl) ?_
 refine GoO.pure (ps_fieldAddr rfl rfl) ?_
 refine GoO.pure (ps_load rfl At.p0 At.p0 Nat.zero_lt_one rfl rfl) ?_
 refine GoO.pure (ps_move rfl rfl) ?_
 have c49 := ck_l H; replace H := ck_r H
 refine GoO.pure (ps_indexAddr0N rfl rfl c49 rfl) ?_
 refine GoO.pure (ps_load rfl At.p1 At.p1 c49 rfl rfl) ?_
 refine GoO.pure (ps_move rfl rfl) ?_
 have c50 := ck_l H; replace H := ck_r H
 refine GoO.pure (ps_sub rfl rfl rfl c50) ?_
 refine GoO.pure (ps_indexAddr0N rfl rfl c49 rfl) ?_
 refine GoO.eff1 (ef_store rfl rfl rfl At.p1 (upd_row1 (v := ((x46.f.getD k14 (0 : Int)) - r45)) rfl) c49 rfl) ?_
 refine GoO.nil ?_
 refine GoK.code ?_
 refine GoC.region ?_
 refine GoO.pure (ps_move rfl rfl) ?_
 refine GoO.pure (ps_move rfl rfl) ?_
 have c51 := ck_l H; replace H := ck_r H
 refine GoO.pure (ps_add rfl rfl rfl c51) ?_
 refine GoO.pure (ps_assign rfl rfl) ?_
 refine GoO.nil ?_
 refine GoK.blk ?_
 refine GoK.code ?_
 refine GoC.region ?_
 refine GoO.pure (ps_add rfl rfl rfl hIk14) ?_
 refine GoO.pure (ps_move rfl rfl) ?_
 refine GoO.nil ?_
 obtain rfl := Option.some.inj H
 exact GoK.againJ m15' (by omega) ⟨_, _, _, _, β48, ⟨by omega, hF9⟩, rfl, rfl⟩ (EnvD.eq rfl (EnvD.eq rfl (EnvD.eq rfl (EnvD.eq rfl (EnvD.eq rfl (EnvD.eq rfl (EnvD.eq rfl (EnvD.nil)))))))) (TkD.cons _ _ _ _ _ Rem.p1 (HLe.refl _) (TkD.cons _ _ _ _ _ Rem.p0 (HLe.arrP rfl ⟨⟨⟨⟨⟨trivial, DLe.refl _⟩, DLe.refl _⟩, DLe.refl _⟩, DLe.refl _⟩, DLe.len (by first | rfl | omega | (simp only [row_len, gridC_len, rowO_len, List.length_set] <;> first | rfl | omega))⟩) (TkD.nil _)))
 replace H := ite_f h42 H
 refine GoC.skip ?_
 refine GoK.blk ?_
 refine GoK.code ?_
 refine GoC.region ?_
 refine GoO.pure (ps_add rfl rfl rfl hIk14) ?_
 refine GoO.pure (ps_move rfl rfl) ?_
 refine GoO.nil ?_
 obtain rfl := Option.some.inj H
 exact GoK.againJ m15' (by omega) ⟨_, _, _, _, β17, ⟨by omega, hF9⟩, rfl, rfl⟩ (EnvD.eq rfl (EnvD.eq rfl (EnvD.eq rfl (EnvD.eq rfl (EnvD.eq rfl (EnvD.eq rfl (EnvD.eq rfl (EnvD.nil)))))))) (TkD.cons _ _ _ _ _ Rem.p0 (HLe.refl _) (TkD.cons _ _ _ _ _ Rem.p0 (HLe.arrP rfl ⟨⟨⟨⟨⟨trivial, DLe.refl _⟩, DLe.refl _⟩, DLe.refl _⟩, DLe.refl _⟩, DLe.len (by first | rfl | omega | (simp only [row_len, gridC_len, rowO_len] <;> first | rfl | omega))⟩) (TkD.nil _)))
 replace H := ite_f h38 H
 refine GoP.qF rfl rfl rfl rfl rfl ?_
 refine GoP.qF rfl rfl rfl rfl rfl ?_
 refine GoP.qF rfl rfl rfl rfl rfl ?_
 refine GoP.qF rfl rfl rfl rfl rfl ?_
 refine GoP.qF rfl rfl rfl rfl rfl ?_
 refine GoP.qF rfl rfl rfl rfl rfl ?_
 refine GoP.qF rfl rfl rfl rfl rfl ?_
 refine GoP.qF rfl rfl rfl rfl rfl ?_
 refine GoP.qF rfl rfl rfl rfl rfl ?_
 refine GoP.qF rfl rfl rfl rfl rfl ?_
 refine GoP.qF rfl rfl rfl rfl rfl ?_
 refine GoP.qF rfl rfl rfl rfl rfl ?_
 refine GoP.qF rfl rfl rfl rfl rfl ?_
 refine GoP.qF rfl rfl rfl rfl rfl ?_
 refine GoP.qF rfl rfl rfl rfl rfl ?_
 refine GoP.qN rfl (ps_pickF rfl rfl rfl) ?_
 refine GoP.done ?_
 refine GoK.code ?_
 refine GoC.condF rfl ?_
 refine GoC.skip ?_
 refine GoK.blk ?_
 refine GoK.code ?_
 refine GoC.region ?_
 refine GoO.pure (ps_add rfl rfl rfl hIk14) ?_
 refine GoO.pure (ps_move rfl rfl) ?_
 refine GoO.nil ?_
 obtain rfl := Option.some.inj H
 exact GoK.againJ m15' (by omega) ⟨_, _, _, _, β17, ⟨by omega, hF9⟩, rfl, rfl⟩ (EnvD.eq rfl (EnvD.eq rfl (EnvD.eq rfl (EnvD.eq rfl (EnvD.eq rfl (EnvD.eq rfl (EnvD.eq rfl (EnvD.nil)))))))) (TkD.cons _ _ _ _ _ Rem.p0 (HLe.refl _) (TkD.cons _ _ _ _ _ Rem.p0 (HLe.arrP rfl ⟨⟨⟨⟨⟨trivial, DLe.refl _⟩, DLe.refl _⟩, DLe.refl _⟩, DLe.refl _⟩, DLe.len (by first | rfl | omega | (simp only [row_len, gridC_len, rowO_len] <;> first | rfl | omega))⟩) (TkD.nil _)))
 obtain rfl : m15 = 0 := by omega
 refine GoC.exit rfl ?_
 cases hF9
 exact GoK.meet ⟨β4, rfl, rfl⟩ (EnvD.eq rfl (EnvD.eq rfl (EnvD.eq rfl (EnvD.nil)))) (TkD.cons _ _ _ _ _ Rem.p0 (HLe.refl _) (TkD.cons _ _ _ _ _ Rem.p0 (HLe.arrP rfl ⟨⟨⟨⟨⟨trivial, DLe.refl _⟩, DLe.refl _⟩, DLe.refl _⟩, DLe.refl _⟩, DLe.len (by first | rfl | omega | (simp only [row_len, gridC_len, rowO_len] <;> first | rfl | omega))⟩) (TkD.nil _)))
 rintro v h ⟨β4, rfl, rfl⟩
 have H := HK8; clear HK8
 refine GoK.code ?_
 refine GoC.seq ?_
 refine GoC.seq ?_
 refine GoC.region ?_
 refine GoO.pure (ps_move rfl rfl) ?_
 refine GoO.pure (ps_eql rfl rfl rfl) ?_
 refine GoO.nil ?_
 refine GoK.code ?_
 refine GoC.condD rfl (fun h53 => ?_) (fun h53 => ?_)
 replace H := ite_t h53 H
 refine GoC.region ?_
 refine GoO.pure (ps_move rfl rfl) ?_
 refine GoO.pure (ps_move rfl rfl) ?_
 refine GoO.pure (ps_nilCheck rfl rfl) ?_
 refine GoO.pure (ps_fieldAddr rfl rfl) ?_
 have c54 := ck_l H; replace H := ck_r H
 refine GoO.pure (ps_indexAddrA rfl rfl c54 rfl) ?_
 refine GoO.eff1 (ef_store rfl rfl rfl At.p1 (upd_arr1 (α := Int) (i := at_.toNat) (v := (-1)) rfl (by simp only [show El.size Int = 1 from rfl, List.length_cons, List.length_nil, eldI]; omega) rfl) Nat.zero_lt_one (blt_of (arr_lt (α := Int) (pre := [.v (.int .i64 r.n.n), .v (.int .i64 r.n.s), .v (.int .i64 r.n.t), slD r.n.as, .own β4 1 0 l11.length]) (i := at_.toNat) (off := 0) (by simp only [show El.size Int = 1 from rfl, List.length_cons, List.length_nil, eldI]; omega) (idx_lt (n := 12) c54) (by decide) rfl))) ?_
 refine GoO.nil ?_
 refine GoK.code ?_
 refine GoC.seq ?_
 refine GoC.region ?_
 refine GoO.pure (ps_move rfl rfl) ?_
 refine GoO.pure (ps_assign rfl rfl) ?_
 refine GoO.nil ?_
 refine GoK.code ?_
 obtain rfl := Option.some.inj H
 exact GoC.retL (ds := [.v (.int .i64 x13)]) Try.results74 (ResL.cons (ResD.tmp rfl) (ResL.nil)) (Take.cons _ _ _ _ _ Rem.p1 (Take.cons _ _ _ _ _ Rem.p0 (Take.nil _))) ⟨β4, rfl, rfl⟩
 replace H := ite_f h53 H
 refine GoC.skip ?_
 refine GoK.code ?_
 refine GoC.seq ?_
 refine GoC.region ?_
 refine GoO.pure (ps_move rfl rfl) ?_
 refine GoO.pure (ps_assign rfl rfl) ?_
 refine GoO.nil ?_
 refine GoK.code ?_
 obtain rfl := Option.some.inj H
 exact GoC.retL (ds := [.v (.int .i64 x13)]) Try.results74 (ResL.cons (ResD.tmp rfl) (ResL.nil)) (Take.cons _ _ _ _ _ Rem.p1 (Take.cons _ _ _ _ _ Rem.p0 (Take.nil _))) ⟨β4, rfl, rfl⟩
 replace H := ite_t h1 H
 refine GoO.guardF rfl rfl rfl rfl ?_
 refine GoO.pure (ps_pickT rfl rfl rfl) ?_
 refine GoO.nil ?_
 refine GoK.code ?_
 refine GoC.condT rfl ?_
 refine GoC.seq ?_
 refine GoC.region ?_
 refine GoO.pure (ps_move rfl rfl) ?_
 refine GoO.pure (ps_assign rfl rfl) ?_
 refine GoO.nil ?_
 refine GoK.code ?_
 obtain rfl := Option.some.inj H
 exact GoC.retL (ds := [.v (.int .i64 most)]) Try.results74 (ResL.cons (ResD.tmp rfl) (ResL.nil)) (Take.cons _ _ _ _ _ Rem.p0 (Take.cons _ _ _ _ _ Rem.p0 (Take.nil _))) ⟨βr_1, rfl, rfl⟩

def level_Of_B2 (n : Net) : ((List Int) × (Nat → Int) × Int) → Option (Ct ((List Int) × (Nat → Int) × Int) (Ct ((List Int) × (Nat → Int) × Int × Nat) ((List Int) × Int × Int × Int))) := fun (l28, f29, x30) =>
 (level_send_F 100 (⟨n, l28, f29⟩ : Run) n.s 600000).bind fun (r38, x39) =>
 if r38 = 0 then
  some (.brk (x39.f, x39.level, x30))
 else
  ck (InI (x30 + r38)) <|
  some (.go (x39.f, x39.level, (x30 + r38)))
def level_Of_B1 (n : Net) : ((List Int) × (Nat → Int) × Int × Nat) → Option (Ct ((List Int) × (Nat → Int) × Int × Nat) ((List Int) × Int × Int × Int)) := fun (l9, f10, x11, n12) =>
 (level_levels_F (⟨n, l9, f10⟩ : Run)).bind fun (r21, x22) =>
 if r21 = true then
  ck (InI (((n12 : Nat) : Int) + 1)) <|
  (loopC (level_Of_B2 n) 1000000 (x22.f, x22.level, x11)).bind fun q => match q with
  | .go (l34, f35, x36) =>
   some (.go (l34, f35, x36, (n12 + 1)))
  | .ret x => some x
 else
  some (.brk (x22.f, x22.level, x11, n12))
def level_Of_F (n : Net) : Option ((List Int) × Int × Int × Int) :=
 (graph_CheckNet_F n).bind fun r2 =>
 if r2 ≠ 0 then
  some ([], 0, 0, r2)
 else
  ck (0 ≤ ((n.as.length : Nat) : Int) ∧ ((n.as.length : Nat) : Int) ≤ 10000000000) <|
  (loopC (level_Of_B1 n) 1000000 ((List.replicate (((n.as.length : Nat) : Int).toNat) (0 : Int)), (fun _ => (0 : Int) : Nat → Int), 0, 0)).bind fun q => match q with
  | .go (l16, f17, x18, n19) =>
   some (l16, x18, ((n19 : Nat) : Int), 0)
  | .ret x => some x
def level_Of_P (out : (List Int) × Int × Int × Int) (d : D) (H : List HL) : Prop := ∃ β1 : BK, d = .tp 4 (nth [.own β1 1 0 out.1.length, .v (.int .i64 out.2.1), .v (.int .i64 out.2.2.1), .v (.int .i64 out.2.2.2)]) ∧ H = [.one β1 3 1 (row out.1)]
theorem level_Of_I (out : (List Int) × Int × Int × Int) : IndepP (level_Of_P out) := IndepP.of (by rintro _ _ ⟨β1, rfl, rfl⟩; exact ⟨inferInstance, inferInstance⟩)
set_option maxRecDepth 100000 in
set_option maxHeartbeats 4000000 in
theorem level_Of_spec (n : Net) {out : (List Int) × Int × Int × Int} (H : level_Of_F n = some out) : Does Try.prog 37 [.ag 4 (nth [.v (.int .i64 n.n), .v (.int .i64 n.s), .v (.int .i64 n.t), slD n.as])] [] (level_Of_P out) := by
 unfold level_Of_F at H
 refine Does.intro Try.func37 rfl Try.ntmps37 rfl fun w0 I0 => ?_
 refine GoC.seq ?_
 refine GoC.region ?_
 refine GoO.effB (ef_boxAg rfl rfl) (fun β1 => ?_)
 refine GoO.pure (ps_assign rfl rfl) ?_
 refine GoO.pure (ps_assign rfl rfl) ?_
 refine GoO.pure (ps_assign rfl rfl) ?_
 refine GoO.pure (ps_assign rfl rfl) ?_
 refine GoO.nil ?_
 refine GoK.code ?_
 refine GoC.seq ?_
 refine GoC.seq ?_
 refine GoC.region ?_
 refine GoO.pure (ps_loadAg rfl At.p0 At.p0 Nat.zero_lt_one rfl rfl) ?_
 have hb := bind_l H; clear H
 obtain ⟨r2, e3, H⟩ := hb
 refine GoO.effC (ef_call rfl (Take.nil _) (Take.nil _) (graph_CheckNet_spec n e3) (LendL.cons (Lend.agA ⟨⟨⟨⟨trivial, Lend.refl _ _⟩, Lend.refl _ _⟩, Lend.refl _ _⟩, Lend.refl _ _⟩) (LendL.nil)) rfl (graph_CheckNet_I (r2))) (fun rr HH hp => ?_)
 obtain ⟨rfl, rfl⟩ := hp
 refine GoO.pure (ps_assign rfl rfl) ?_
 refine GoO.nil ?_
 refine GoK.code ?_
 refine GoC.seq ?_
 refine GoC.region ?_
 refine GoO.pure (ps_move rfl rfl) ?_
 refine GoO.pure (ps_neq rfl rfl rfl) ?_
 refine GoO.nil ?_
 refine GoK.code ?_
 refine GoC.condD rfl (fun h4 => ?_) (fun h4 => ?_)
 replace H := ite_t h4 H
 refine GoC.seq ?_
 refine GoC.region ?_
 refine GoO.pure (ps_move rfl rfl) ?_
 refine GoO.pure (ps_assign rfl rfl) ?_
 refine GoO.pure (ps_assign rfl rfl) ?_
 refine GoO.pure (ps_assign rfl rfl) ?_
 refine GoO.pure (ps_assign rfl rfl) ?_
 refine GoO.nil ?_
 refine GoK.code ?_
 obtain rfl := Option.some.inj H
 refine GoC.le (le_row0 3 1 (row ([] : List Int)) rfl) ?_
 exact GoC.retL (ds := [.own ⟨0, 0, 0⟩ 1 0 0, .v (.int .i64 0), .v (.int .i64 0), .v (.int .i64 r2)]) Try.results37 (ResL.cons (ResD.le (ResD.tmp rfl) (by exact DLe.nilOwn)) (ResL.cons (ResD.tmp rfl) (ResL.cons (ResD.tmp rfl) (ResL.cons (ResD.tmp rfl) (ResL.nil))))) (Take.cons _ _ _ _ _ Rem.p0 (Take.nil _)) ⟨⟨0, 0, 0⟩, rfl, rfl⟩
 replace H := ite_f h4 H
 refine GoC.skip ?_
 refine GoK.code ?_
 refine GoC.seq ?_
 refine GoC.drawA (.q 0 (.q 1 (.q 2 (.q 3 (.one 4 (.q 5 (.one 6 (.q 7 (.done))))))))) follows (by kernel_rfl) ?_
 refine GoP.qN rfl (ps_loadAg rfl At.p0 At.p0 Nat.zero_lt_one rfl rfl) ?_
 refine GoP.qN rfl (ps_fieldAddr rfl rfl) ?_
 refine GoP.qN rfl (ps_load rfl At.p0 At.p0 Nat.zero_lt_one rfl rfl) ?_
 refine GoP.qN rfl (ps_len rfl (by constructor) rfl) ?_
 have c6 := ck_l H; replace H := ck_r H
 refine GoP.oneB rfl trivial (ef_makeZ rfl rfl c6 rfl rfl rfl) (Take.cons _ _ _ _ _ Rem.p0 (Take.nil _)) (fun β5 => ?_)
 refine GoP.leD (Le.reH At.p0 (HLe.zeros (α := Int) ⟨trivial, DLe.refl _⟩)) ?_
 refine GoP.qN rfl (ps_build (Parts.cons _ _ _ _ _ _ _ _ FdP.of (Part.ag _ _ rfl) rfl rfl (Parts.cons _ _ _ _ _ _ _ _ FdP.of (Part.one _ rfl rfl) rfl rfl (Parts.nil _))) rfl) ?_
 refine GoP.oneB rfl trivial (ef_boxAg rfl rfl) (Take.cons _ _ _ _ _ Rem.p1 (Take.nil _)) (fun β7 => ?_)
 refine GoP.leD (Le.reH At.p0 (HLe.arr (α := Int) (pre := [.v (.int .i64 n.n), .v (.int .i64 n.s), .v (.int .i64 n.t), slD n.as, .own β5 1 0 (((n.as.length : Nat) : Int).toNat)]) (g := fun _ => (0 : Int)) ⟨⟨⟨⟨⟨⟨⟨⟨⟨⟨⟨⟨⟨⟨⟨⟨⟨trivial, DLe.refl _⟩, DLe.refl _⟩, DLe.refl _⟩, DLe.refl _⟩, DLe.refl _⟩, DLe.refl _⟩, DLe.refl _⟩, DLe.refl _⟩, DLe.refl _⟩, DLe.refl _⟩, DLe.refl _⟩, DLe.refl _⟩, DLe.refl _⟩, DLe.refl _⟩, DLe.refl _⟩, DLe.refl _⟩, DLe.refl _⟩)) ?_
 refine GoP.qN rfl (ps_assign rfl rfl) ?_
 refine GoP.done ?_
 refine GoK.code ?_
 refine GoC.seq ?_
 refine GoC.region ?_
 refine GoO.pure (ps_assign rfl rfl) ?_
 refine GoO.pure (ps_assign rfl rfl) ?_
 refine GoO.nil ?_
 refine GoK.code ?_
 refine GoC.seq ?_
 have hb := bind_l H; clear H
 obtain ⟨q15, hl45, HK13⟩ := hb
 refine GoC.blockJ [] [.one β1 64 4 (st1 (nth [.v (.int .i64 n.n), .v (.int .i64 n.s), .v (.int .i64 n.t), slD n.as]))] (fun v h => ∃ (l16 : (List Int)) (f17 : (Nat → Int)) (x18 : Int) (n19 : Nat) (β8 : BK), q15 = .go (l16, f17, x18, n19) ∧ v = [(7, .ptr β7 17 0 0), (8, .v (.int .i64 x18)), (9, .v (.int .i64 ((n19 : Nat) : Int)))] ∧ h = [.one β8 3 1 (row l16), .one β7 100 17 (arrC (α := Int) [.v (.int .i64 n.n), .v (.int .i64 n.s), .v (.int .i64 n.t), slD n.as, .own β8 1 0 l16.length] f17)]) ?_ ?_
 refine GoC.loopJ [(1, _)] [.one β1 64 4 (st1 (nth [.v (.int .i64 n.n), .v (.int .i64 n.s), .v (.int .i64 n.t), slD n.as]))] (fun mQ v h => ∃ (l9 : (List Int)) (f10 : (Nat → Int)) (x11 : Int) (n12 : Nat) (β8 : BK), loopC (level_Of_B1 n) mQ (l9, f10, x11, n12) = some q15 ∧ v = [(7, .ptr β7 17 0 0), (8, .v (.int .i64 x11)), (9, .v (.int .i64 ((n12 : Nat) : Int)))] ∧ h = [.one β8 3 1 (row l9), .one β7 100 17 (arrC (α := Int) [.v (.int .i64 n.n), .v (.int .i64 n.s), .v (.int .i64 n.t), slD n.as, .own β8 1 0 l9.length] f10)]) 1000000 ⟨_, _, _, _, β5, hl45, rfl, rfl⟩ (EnvD.eq rfl (EnvD.eq rfl (EnvD.eq rfl (EnvD.eq rfl (EnvD.nil))))) (TkD.cons _ _ _ _ _ Rem.p1 (HLe.refl _) (TkD.cons _ _ _ _ _ Rem.p0 (HLe.arrP rfl ⟨⟨⟨⟨⟨trivial, DLe.refl _⟩, DLe.refl _⟩, DLe.refl _⟩, DLe.refl _⟩, DLe.len (by first | rfl | omega | (simp only [row_len, gridC_len, rowO_len, List.length_replicate] <;> first | rfl | omega))⟩) (TkD.cons _ _ _ _ _ Rem.p0 (HLe.st ⟨⟨⟨⟨trivial, DLe.refl _⟩, DLe.refl _⟩, DLe.refl _⟩, DLe.refl _⟩) (TkD.nil _)))) ?_
 rintro m20 v h ⟨l9, f10, x11, n12, β8, hF14, rfl, rfl⟩
 obtain ⟨m20', rfl⟩ | rfl : (∃ x, m20 = x + 1) ∨ m20 = 0 := by cases m20 <;> simp
 case inr => cases hF14
 have hb := bind_l hF14; clear hF14
 obtain ⟨qrm20, H, hF14⟩ := hb
 refine GoC.seq ?_
 refine GoC.seq ?_
 refine GoC.region ?_
 refine GoO.pure (ps_move rfl rfl) ?_
 have hb := bind_l H; clear H
 obtain ⟨⟨r21, x22⟩, e23, H⟩ := hb
 refine GoO.callF rfl (Take.cons _ _ _ _ _ Rem.p1 (Take.cons _ _ _ _ _ Rem.p0 (Take.nil _))) (Take.nil _) (level_levels_spec (⟨n, l9, f10⟩ : Run) β7 β8 e23) (LendL.cons (Lend.refl _ _) (LendL.nil)) rfl nil_fps (fun rr HH hp => ?_)
 obtain ⟨β24, rfl, rfl⟩ := hp
 refine GoO.nil ?_
 refine GoK.code ?_
 refine GoC.cond rfl (fun h25 => ?_) (fun h25 => ?_)
 replace H := itb_t h25 H
 refine GoC.skip ?_
 refine GoK.code ?_
 refine GoC.block ?_
 refine GoC.seq ?_
 refine GoC.region ?_
 refine GoO.pure (ps_move rfl rfl) ?_
 have c26 := ck_l H; replace H := ck_r H
 refine GoO.pure (ps_add rfl rfl rfl c26) ?_
 refine GoO.pure (ps_assign rfl rfl) ?_
 refine GoO.nil ?_
 refine GoK.code ?_
 have hb := bind_l H; clear H
 obtain ⟨q33, hl44, HK31⟩ := hb
 refine GoC.blockJ [(1, .ptr β1 4 0 0), (9, .v (.int .i64 (((n12 + 1) : Nat) : Int)))] [.one β1 64 4 (st1 (nth [.v (.int .i64 n.n), .v (.int .i64 n.s), .v (.int .i64 n.t), slD n.as]))] (fun v h => ∃ (l34 : (List Int)) (f35 : (Nat → Int)) (x36 : Int) (β27 : BK), q33 = .go (l34, f35, x36) ∧ v = [(7, .ptr β7 17 0 0), (8, .v (.int .i64 x36))] ∧ h = [.one β27 3 1 (row l34), .one β7 100 17 (arrC (α := Int) [.v (.int .i64 n.n), .v (.int .i64 n.s), .v (.int .i64 n.t), slD n.as, .own β27 1 0 l34.length] f35)]) ?_ ?_
 refine GoC.loopJ [(1, _), (9, _)] [.one β1 64 4 (st1 (nth [.v (.int .i64 n.n), .v (.int .i64 n.s), .v (.int .i64 n.t), slD n.as]))] (fun mQ v h => ∃ (l28 : (List Int)) (f29 : (Nat → Int)) (x30 : Int) (β27 : BK), loopC (level_Of_B2 n) mQ (l28, f29, x30) = some q33 ∧ v = [(7, .ptr β7 17 0 0), (8, .v (.int .i64 x30))] ∧ h = [.one β27 3 1 (row l28), .one β7 100 17 (arrC (α := Int) [.v (.int .i64 n.n), .v (.int .i64 n.s), .v (.int .i64 n.t), slD n.as, .own β27 1 0 l28.length] f29)]) 1000000 ⟨_, _, _, β24, hl44, rfl, rfl⟩ (EnvD.eq rfl (EnvD.eq rfl (EnvD.eq rfl (EnvD.eq rfl (EnvD.nil))))) (TkD.cons _ _ _ _ _ Rem.p1 (HLe.refl _) (TkD.cons _ _ _ _ _ Rem.p0 (HLe.arrP rfl ⟨⟨⟨⟨⟨trivial, DLe.refl _⟩, DLe.refl _⟩, DLe.refl _⟩, DLe.refl _⟩, DLe.len (by first | rfl | omega | (simp only [row_len, gridC_len, rowO_len] <;> first | rfl | omega))⟩) (TkD.cons _ _ _ _ _ Rem.p0 (HLe.st ⟨⟨⟨⟨trivial, DLe.refl _⟩, DLe.refl _⟩, DLe.refl _⟩, DLe.refl _⟩) (TkD.nil _)))) ?_
 rintro m37 v h ⟨l28, f29, x30, β27, hF32, rfl, rfl⟩
 obtain ⟨m37', rfl⟩ | rfl : (∃ x, m37 = x + 1) ∨ m37 = 0 := by cases m37 <;> simp
 case inr => cases hF32
 have hb := bind_l hF32; clear hF32
 obtain ⟨qrm37, H, hF32⟩ := hb
 refine GoC.block ?_
 refine GoC.seq ?_
 refine GoC.region ?_
 refine GoO.pure (ps_move rfl rfl) ?_
 refine GoO.pure (ps_fieldAddr rfl rfl) ?_
 refine GoO.pure (ps_load rfl At.p2 At.p2 Nat.zero_lt_one rfl rfl) ?_
 have hb := bind_l H; clear H
 obtain ⟨⟨r38, x39⟩, e40, H⟩ := hb
 refine GoO.callF rfl (Take.cons _ _ _ _ _ Rem.p1 (Take.cons _ _ _ _ _ Rem.p0 (Take.nil _))) (Take.nil _) (level_send_spec 100 (⟨n, l28, f29⟩ : Run) n.s 600000 β7 β27 e40) (LendL.cons (Lend.refl _ _) (LendL.cons (Lend.refl _ _) (LendL.cons (Lend.refl _ _) (LendL.nil)))) rfl nil_fps (fun rr HH hp => ?_)
 obtain ⟨β41, rfl, rfl⟩ := hp
 refine GoO.pure (ps_assign rfl rfl) ?_
 refine GoO.nil ?_
 refine GoK.code ?_
 refine GoC.seq ?_
 refine GoC.seq ?_
 refine GoC.region ?_
 refine GoO.pure (ps_move rfl rfl) ?_
 refine GoO.pure (ps_eql rfl rfl rfl) ?_
 refine GoO.nil ?_
 refine GoK.code ?_
 refine GoC.condD rfl (fun h42 => ?_) (fun h42 => ?_)
 replace H := ite_t h42 H
 refine GoC.exit rfl ?_
 obtain rfl := Option.some.inj H
 obtain rfl := Option.some.inj hF32
 exact GoK.meet ⟨_, _, _, β41, rfl, rfl, rfl⟩ (EnvD.eq rfl (EnvD.eq rfl (EnvD.eq rfl (EnvD.eq rfl (EnvD.nil))))) (TkD.cons _ _ _ _ _ Rem.p1 (HLe.refl _) (TkD.cons _ _ _ _ _ Rem.p0 (HLe.arrP rfl ⟨⟨⟨⟨⟨trivial, DLe.refl _⟩, DLe.refl _⟩, DLe.refl _⟩, DLe.refl _⟩, DLe.len (by first | rfl | omega | (simp only [row_len, gridC_len, rowO_len] <;> first | rfl | omega))⟩) (TkD.cons _ _ _ _ _ Rem.p0 (HLe.st ⟨⟨⟨⟨trivial, DLe.refl _⟩, DLe.refl _⟩, DLe.refl _⟩, DLe.refl _⟩) (TkD.nil _))))
 replace H := ite_f h42 H
 refine GoC.skip ?_
 refine GoK.code ?_
 refine GoC.region ?_
 refine GoO.pure (ps_move rfl rfl) ?_
 refine GoO.pure (ps_move rfl rfl) ?_
 have c43 := ck_l H; replace H := ck_r H
 refine GoO.pure (ps_add rfl rfl rfl c43) ?_
 refine GoO.pure (ps_assign rfl rfl) ?_
 refine GoO.nil ?_
 refine GoK.blk ?_
 obtain rfl := Option.some.inj H
 exact GoK.againJ m37' (by omega) ⟨_, _, _, β41, hF32, rfl, rfl⟩ (EnvD.eq rfl (EnvD.eq rfl (EnvD.eq rfl (EnvD.eq rfl (EnvD.nil))))) (TkD.cons _ _ _ _ _ Rem.p1 (HLe.refl _) (TkD.cons _ _ _ _ _ Rem.p0 (HLe.arrP rfl ⟨⟨⟨⟨⟨trivial, DLe.refl _⟩, DLe.refl _⟩, DLe.refl _⟩, DLe.refl _⟩, DLe.len (by first | rfl | omega | (simp only [row_len, gridC_len, rowO_len] <;> first | rfl | omega))⟩) (TkD.cons _ _ _ _ _ Rem.p0 (HLe.st ⟨⟨⟨⟨trivial, DLe.refl _⟩, DLe.refl _⟩, DLe.refl _⟩, DLe.refl _⟩) (TkD.nil _))))
 rintro v h ⟨l34, f35, x36, β27, rfl, rfl, rfl⟩
 have H := HK31; clear HK31
 refine GoK.blk ?_
 obtain rfl := Option.some.inj H
 exact GoK.againJ m20' (by omega) ⟨_, _, _, _, β27, hF14, rfl, rfl⟩ (EnvD.eq rfl (EnvD.eq rfl (EnvD.eq rfl (EnvD.eq rfl (EnvD.nil))))) (TkD.cons _ _ _ _ _ Rem.p0 (HLe.refl _) (TkD.cons _ _ _ _ _ Rem.p0 (HLe.arrP rfl ⟨⟨⟨⟨⟨trivial, DLe.refl _⟩, DLe.refl _⟩, DLe.refl _⟩, DLe.refl _⟩, DLe.len (by first | rfl | omega | (simp only [row_len, gridC_len, rowO_len] <;> first | rfl | omega))⟩) (TkD.cons _ _ _ _ _ Rem.p0 (HLe.st ⟨⟨⟨⟨trivial, DLe.refl _⟩, DLe.refl _⟩, DLe.refl _⟩, DLe.refl _⟩) (TkD.nil _))))
 replace H := itb_f h25 H
 refine GoC.exit rfl ?_
 obtain rfl := Option.some.inj H
 obtain rfl := Option.some.inj hF14
 exact GoK.meet ⟨_, _, _, _, β24, rfl, rfl, rfl⟩ (EnvD.eq rfl (EnvD.eq rfl (EnvD.eq rfl (EnvD.nil)))) (TkD.cons _ _ _ _ _ Rem.p1 (HLe.refl _) (TkD.cons _ _ _ _ _ Rem.p0 (HLe.arrP rfl ⟨⟨⟨⟨⟨trivial, DLe.refl _⟩, DLe.refl _⟩, DLe.refl _⟩, DLe.refl _⟩, DLe.len (by first | rfl | omega | (simp only [row_len, gridC_len, rowO_len] <;> first | rfl | omega))⟩) (TkD.cons _ _ _ _ _ Rem.p0 (HLe.st ⟨⟨⟨⟨trivial, DLe.refl _⟩, DLe.refl _⟩, DLe.refl _⟩, DLe.refl _⟩) (TkD.nil _))))
 rintro v h ⟨l16, f17, x18, n19, β8, rfl, rfl, rfl⟩
 have H := HK13; clear HK13
 refine GoK.code ?_
 refine GoC.seq ?_
 refine GoC.region ?_
 refine GoO.pure (ps_move rfl rfl) ?_
 refine GoO.pure (ps_nilCheck rfl rfl) ?_
 refine GoO.pure (ps_fieldAddr rfl rfl) ?_
 refine GoO.pure (ps_load rfl At.p1 At.p1 Nat.zero_lt_one rfl rfl) ?_
 refine GoO.pure (ps_move rfl rfl) ?_
 refine GoO.pure (ps_move rfl rfl) ?_
 refine GoO.pure (ps_assign rfl rfl) ?_
 refine GoO.pure (ps_assign rfl rfl) ?_
 refine GoO.pure (ps_assign rfl rfl) ?_
 refine GoO.pure (ps_assign rfl rfl) ?_
 refine GoO.nil ?_
 refine GoK.code ?_
 obtain rfl := Option.some.inj H
 exact GoC.retL (ds := [.own β8 1 0 l16.length, .v (.int .i64 x18), .v (.int .i64 ((n19 : Nat) : Int)), .v (.int .i64 0)]) Try.results37 (ResL.cons (ResD.tmp rfl) (ResL.cons (ResD.tmp rfl) (ResL.cons (ResD.tmp rfl) (ResL.cons (ResD.tmp rfl) (ResL.nil))))) (Take.cons _ _ _ _ _ Rem.p0 (Take.nil _)) ⟨β8, rfl, rfl⟩

end Go.Proofs.Ytdpkdicciclobaa
