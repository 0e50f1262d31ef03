/- The functions colour.swap, colour.Sides, told as plain functions, and that the code does as they say. -/
import Derived.Test.YtdpkdicciclobaaTys
import Derived.Test.YtdpkdicciclobaaDat
import Derived.Test.YtdpkdicciclobaaGgraph
import Derived.Test.YtdpkdicciclobaaGslices
import Derived.Test.YtdpkdicciclobaaGwalk
namespace Go.Proofs.Ytdpkdicciclobaa
open Go Go.Proofs.Ytdpkdicciclobaa.Sx
set_option linter.unusedVariables false
set_option linter.unusedSimpArgs false
def colour_swap_B1 (g : Graph) (at_ : (List (List Int))) (colours : (List Int)) (c : Int) (d_ : Int) : (Int × (List Int) × Int) → Option (Ct (Int × (List Int) × Int) ((List Int) × (List (List Int)))) := fun (x5, l7, x8) =>
 if 0 ≤ x8 then
  ck (l7.length + 1 ≤ 17592186044416) <|
  ck (0 ≤ x8 ∧ x8 < ((g.as.length : Nat) : Int)) <|
  ck (InI (((g.as.getD x8.toNat El.d).f) + ((g.as.getD x8.toNat El.d).t))) <|
  ck (InI ((((g.as.getD x8.toNat El.d).f) + ((g.as.getD x8.toNat El.d).t)) - x5)) <|
  ck (InI (c + d_)) <|
  ck (0 ≤ x8 ∧ x8 < ((colours.length : Nat) : Int)) <|
  ck (InI ((c + d_) - (colours.getD x8.toNat (0 : Int)))) <|
  ck (0 ≤ ((((g.as.getD x8.toNat El.d).f) + ((g.as.getD x8.toNat El.d).t)) - x5) ∧ ((((g.as.getD x8.toNat El.d).f) + ((g.as.getD x8.toNat El.d).t)) - x5) < ((at_.length : Nat) : Int)) <|
  ck (0 ≤ ((c + d_) - (colours.getD x8.toNat (0 : Int))) ∧ ((c + d_) - (colours.getD x8.toNat (0 : Int))) < (((at_.getD (((((g.as.getD x8.toNat El.d).f) + ((g.as.getD x8.toNat El.d).t)) - x5).toNat) []).length : Nat) : Int)) <|
  ck (InI (((at_.getD (((((g.as.getD x8.toNat El.d).f) + ((g.as.getD x8.toNat El.d).t)) - x5).toNat) []).getD (((c + d_) - (colours.getD x8.toNat (0 : Int))).toNat) (0 : Int)) - 1)) <|
  some (.go (((((g.as.getD x8.toNat El.d).f) + ((g.as.getD x8.toNat El.d).t)) - x5), (l7 ++ ([x8] : List Int)), (((at_.getD (((((g.as.getD x8.toNat El.d).f) + ((g.as.getD x8.toNat El.d).t)) - x5).toNat) []).getD (((c + d_) - (colours.getD x8.toNat (0 : Int))).toNat) (0 : Int)) - 1)))
 else
  some (.brk (x5, l7, x8))
def colour_swap_B2 (g : Graph) (colours : (List Int)) (l13 : (List Int)) : Nat → (List (List Int)) → Option ((List (List Int))) := fun k37 g31 =>
 ck (0 ≤ (l13.getD k37 (0 : Int)) ∧ (l13.getD k37 (0 : Int)) < ((g.as.length : Nat) : Int)) <|
 ck (0 ≤ (g.as.getD ((l13.getD k37 (0 : Int)).toNat) El.d).f ∧ (g.as.getD ((l13.getD k37 (0 : Int)).toNat) El.d).f < ((g31.length : Nat) : Int)) <|
 ck (0 ≤ (l13.getD k37 (0 : Int)) ∧ (l13.getD k37 (0 : Int)) < ((colours.length : Nat) : Int)) <|
 ck (0 ≤ (g.as.getD ((l13.getD k37 (0 : Int)).toNat) El.d).t ∧ (g.as.getD ((l13.getD k37 (0 : Int)).toNat) El.d).t < ((g31.length : Nat) : Int)) <|
 ck (0 ≤ (colours.getD ((l13.getD k37 (0 : Int)).toNat) (0 : Int)) ∧ (colours.getD ((l13.getD k37 (0 : Int)).toNat) (0 : Int)) < (((g31.getD (((g.as.getD ((l13.getD k37 (0 : Int)).toNat) El.d).f).toNat) []).length : Nat) : Int)) <|
 ck (0 ≤ (colours.getD ((l13.getD k37 (0 : Int)).toNat) (0 : Int)) ∧ (colours.getD ((l13.getD k37 (0 : Int)).toNat) (0 : Int)) < (((g31.getD (((g.as.getD ((l13.getD k37 (0 : Int)).toNat) El.d).t).toNat) []).length : Nat) : Int)) <|
 some ((g31.set (((g.as.getD ((l13.getD k37 (0 : Int)).toNat) El.d).f).toNat) ((g31.getD (((g.as.getD ((l13.getD k37 (0 : Int)).toNat) El.d).f).toNat) []).set ((colours.getD ((l13.getD k37 (0 : Int)).toNat) (0 : Int)).toNat) 0)).set (((g.as.getD ((l13.getD k37 (0 : Int)).toNat) El.d).t).toNat) (((g31.set (((g.as.getD ((l13.getD k37 (0 : Int)).toNat) El.d).f).toNat) ((g31.getD (((g.as.getD ((l13.getD k37 (0 : Int)).toNat) El.d).f).toNat) []).set ((colours.getD ((l13.getD k37 (0 : Int)).toNat) (0 : Int)).toNat) 0)).getD (((g.as.getD ((l13.getD k37 (0 : Int)).toNat) El.d).t).toNat) []).set ((colours.getD ((l13.getD k37 (0 : Int)).toNat) (0 : Int)).toNat) 0))
def colour_swap_B3 (g : Graph) (c : Int) (d_ : Int) (l13 : (List Int)) : Nat → ((List (List Int)) × (List Int)) → Option ((List (List Int)) × (List Int)) := fun k54 (g46, l48) =>
 ck (InI (c + d_)) <|
 ck (0 ≤ (l13.getD k54 (0 : Int)) ∧ (l13.getD k54 (0 : Int)) < ((l48.length : Nat) : Int)) <|
 ck (InI ((c + d_) - (l48.getD ((l13.getD k54 (0 : Int)).toNat) (0 : Int)))) <|
 ck (0 ≤ (l13.getD k54 (0 : Int)) ∧ (l13.getD k54 (0 : Int)) < ((g.as.length : Nat) : Int)) <|
 ck (0 ≤ (g.as.getD ((l13.getD k54 (0 : Int)).toNat) El.d).f ∧ (g.as.getD ((l13.getD k54 (0 : Int)).toNat) El.d).f < ((g46.length : Nat) : Int)) <|
 ck (0 ≤ (g.as.getD ((l13.getD k54 (0 : Int)).toNat) El.d).t ∧ (g.as.getD ((l13.getD k54 (0 : Int)).toNat) El.d).t < ((g46.length : Nat) : Int)) <|
 ck (InI ((l13.getD k54 (0 : Int)) + 1)) <|
 ck (0 ≤ ((l48.set ((l13.getD k54 (0 : Int)).toNat) ((c + d_) - (l48.getD ((l13.getD k54 (0 : Int)).toNat) (0 : Int)))).getD ((l13.getD k54 (0 : Int)).toNat) (0 : Int)) ∧ ((l48.set ((l13.getD k54 (0 : Int)).toNat) ((c + d_) - (l48.getD ((l13.getD k54 (0 : Int)).toNat) (0 : Int)))).getD ((l13.getD k54 (0 : Int)).toNat) (0 : Int)) < (((g46.getD (((g.as.getD ((l13.getD k54 (0 : Int)).toNat) El.d).f).toNat) []).length : Nat) : Int)) <|
 ck (0 ≤ ((l48.set ((l13.getD k54 (0 : Int)).toNat) ((c + d_) - (l48.getD ((l13.getD k54 (0 : Int)).toNat) (0 : Int)))).getD ((l13.getD k54 (0 : Int)).toNat) (0 : Int)) ∧ ((l48.set ((l13.getD k54 (0 : Int)).toNat) ((c + d_) - (l48.getD ((l13.getD k54 (0 : Int)).toNat) (0 : Int)))).getD ((l13.getD k54 (0 : Int)).toNat) (0 : Int)) < (((g46.getD (((g.as.getD ((l13.getD k54 (0 : Int)).toNat) El.d).t).toNat) []).length : Nat) : Int)) <|
 some (((g46.set (((g.as.getD ((l13.getD k54 (0 : Int)).toNat) El.d).f).toNat) ((g46.getD (((g.as.getD ((l13.getD k54 (0 : Int)).toNat) El.d).f).toNat) []).set (((l48.set ((l13.getD k54 (0 : Int)).toNat) ((c + d_) - (l48.getD ((l13.getD k54 (0 : Int)).toNat) (0 : Int)))).getD ((l13.getD k54 (0 : Int)).toNat) (0 : Int)).toNat) ((l13.getD k54 (0 : Int)) + 1))).set (((g.as.getD ((l13.getD k54 (0 : Int)).toNat) El.d).t).toNat) (((g46.set (((g.as.getD ((l13.getD k54 (0 : Int)).toNat) El.d).f).toNat) ((g46.getD (((g.as.getD ((l13.getD k54 (0 : Int)).toNat) El.d).f).toNat) []).set (((l48.set ((l13.getD k54 (0 : Int)).toNat) ((c + d_) - (l48.getD ((l13.getD k54 (0 : Int)).toNat) (0 : Int)))).getD ((l13.getD k54 (0 : Int)).toNat) (0 : Int)).toNat) ((l13.getD k54 (0 : Int)) + 1))).getD (((g.as.getD ((l13.getD k54 (0 : Int)).toNat) El.d).t).toNat) []).set (((l48.set ((l13.getD k54 (0 : Int)).toNat) ((c + d_) - (l48.getD ((l13.getD k54 (0 : Int)).toNat) (0 : Int)))).getD ((l13.getD k54 (0 : Int)).toNat) (0 : Int)).toNat) ((l13.getD k54 (0 : Int)) + 1))), (l48.set ((l13.getD k54 (0 : Int)).toNat) ((c + d_) - (l48.getD ((l13.getD k54 (0 : Int)).toNat) (0 : Int)))))
def colour_swap_F (g : Graph) (at_ : (List (List Int))) (colours : (List Int)) (node : Int) (c : Int) (d_ : Int) : Option ((List Int) × (List (List Int))) :=
 ck (0 ≤ node ∧ node < ((at_.length : Nat) : Int)) <|
 ck (0 ≤ c ∧ c < (((at_.getD node.toNat []).length : Nat) : Int)) <|
 ck (InI (((at_.getD node.toNat []).getD c.toNat (0 : Int)) - 1)) <|
 (loopC (colour_swap_B1 g at_ colours c d_) 1000000 (node, [], (((at_.getD node.toNat []).getD c.toNat (0 : Int)) - 1))).bind fun q => match q with
 | .go (x12, l13, x14) =>
  (forN (colour_swap_B2 g colours l13) l13.length 0 at_).bind fun g36 =>
  (forN (colour_swap_B3 g c d_ l13) l13.length 0 (g36, colours)).bind fun (g52, l53) =>
  some (l53, g52)
 | .ret x => some x
def colour_swap_P (out : (List Int) × (List (List Int))) (βat_ : BK) (Γat_ : Nat → BK) (βcolours : BK) (d : D) (H : List HL) : Prop := ∃ Γx0 : Nat → BK, d = .tp 0 (nth []) ∧ H = [.one βcolours 3 1 (row out.1), .one βat_ 26 1 (gridC Γx0 out.2), gridH (α := Int) 3 Γx0 out.2]
theorem colour_swap_I (out : (List Int) × (List (List Int))) (βat_ : BK) (Γat_ : Nat → BK) (βcolours : BK) : IndepP (colour_swap_P out βat_ Γat_ βcolours) := IndepP.of (by rintro _ _ ⟨Γx0, rfl, rfl⟩; exact ⟨inferInstance, inferInstance⟩)
set_option maxRecDepth 100000 in
set_option maxHeartbeats 4000000 in
theorem colour_swap_spec (g : Graph) (at_ : (List (List Int))) (colours : (List Int)) (node : Int) (c : Int) (d_ : Int) (βat_ : BK) (Γat_ : Nat → BK) (βcolours : BK) {out : (List Int) × (List (List Int))} (H : colour_swap_F g at_ colours node c d_ = some out) : Does Try.prog 56 [.ag 2 (nth [.v (.int .i64 g.n), slD g.as]), .own βat_ 1 0 at_.length, .own βcolours 1 0 colours.length, .v (.int .i64 node), .v (.int .i64 c), .v (.int .i64 d_)] [.one βat_ 26 1 (gridC Γat_ at_), gridH (α := Int) 3 Γat_ at_, .one βcolours 3 1 (row colours)] (colour_swap_P out βat_ Γat_ βcolours) := by
 unfold colour_swap_F at H
 refine Does.intro Try.func56 rfl Try.ntmps56 rfl fun w0 I0 => ?_
 refine GoC.seq ?_
 refine GoC.region ?_
 refine GoO.effB (ef_boxAg rfl rfl) (fun β1 => ?_)
 refine GoO.nil ?_
 refine GoK.code ?_
 refine GoC.seq ?_
 refine GoC.region ?_
 refine GoO.pure (ps_assign rfl rfl) ?_
 refine GoO.nil ?_
 refine GoK.code ?_
 refine GoC.seq ?_
 refine GoC.seq ?_
 refine GoC.region ?_
 refine GoO.pure (ps_move rfl rfl) ?_
 refine GoO.pure (ps_move rfl rfl) ?_
 have c2 := ck_l H; replace H := ck_r H
 refine GoO.pure (ps_indexAddr0 rfl rfl c2 rfl) ?_
 refine GoO.pure (ps_load rfl At.p1 At.p1 (idx_lt c2) rfl rfl) ?_
 refine GoO.pure (ps_move rfl rfl) ?_
 have c3 := ck_l H; replace H := ck_r H
 refine GoO.pure (ps_indexAddr0 rfl rfl c3 rfl) ?_
 refine GoO.pure (ps_loadG (α := Int) (xs := at_) rfl rfl At.p2 At.p2 (idx_lt c2) (idx_lt c3) rfl rfl) ?_
 have c4 := ck_l H; replace H := ck_r H
 refine GoO.pure (ps_sub rfl rfl rfl c4) ?_
 refine GoO.pure (ps_assign rfl rfl) ?_
 refine GoO.nil ?_
 refine GoK.code ?_
 have hb := bind_l H; clear H
 obtain ⟨q11, hl29, HK9⟩ := hb
 refine GoC.blockJ [(1, .own βat_ 1 0 at_.length), (2, .own βcolours 1 0 colours.length), (4, .v (.int .i64 c)), (5, .v (.int .i64 d_)), (6, .ptr β1 2 0 0)] [.one β1 33 2 (st1 (nth [.v (.int .i64 g.n), slD g.as])), .one βat_ 26 1 (gridC Γat_ at_), gridH (α := Int) 3 Γat_ at_, .one βcolours 3 1 (row colours)] (fun v h => ∃ (x12 : Int) (l13 : (List Int)) (x14 : Int) (β6 : BK), q11 = .go (x12, l13, x14) ∧ v = [(12, .own β6 1 0 l13.length)] ∧ h = [.one β6 3 1 (row l13)]) ?_ ?_
 refine GoC.loopJ [(1, _), (2, _), (4, _), (5, _), (6, _)] [.one β1 33 2 (st1 (nth [.v (.int .i64 g.n), slD g.as])), .one βat_ 26 1 (gridC Γat_ at_), gridH (α := Int) 3 Γat_ at_, .one βcolours 3 1 (row colours)] (fun mQ v h => ∃ (x5 : Int) (l7 : (List Int)) (x8 : Int) (β6 : BK), loopC (colour_swap_B1 g at_ colours c d_) mQ (x5, l7, x8) = some q11 ∧ v = [(3, .v (.int .i64 x5)), (12, .own β6 1 0 l7.length), (13, .v (.int .i64 x8))] ∧ h = [.one β6 3 1 (row l7)]) 1000000 ⟨_, _, _, ⟨0, 0, 0⟩, hl29, rfl, rfl⟩ (EnvD.eq rfl (EnvD.cons rfl (DLe.nilOwn) (EnvD.eq rfl (EnvD.eq rfl (EnvD.eq rfl (EnvD.eq rfl (EnvD.eq rfl (EnvD.eq rfl (EnvD.nil))))))))) (TkD.no _ _ _ _ _ rfl (TkD.cons _ _ _ _ _ Rem.p0 (HLe.st ⟨⟨trivial, DLe.refl _⟩, DLe.refl _⟩) (TkD.cons _ _ _ _ _ Rem.p0 (HLe.refl _) (TkD.cons _ _ _ _ _ Rem.p0 (HLe.refl _) (TkD.cons _ _ _ _ _ Rem.p0 (HLe.refl _) (TkD.nil _)))))) ?_
 rintro m15 v h ⟨x5, l7, x8, β6, hF10, rfl, rfl⟩
 obtain ⟨m15', rfl⟩ | rfl : (∃ x, m15 = x + 1) ∨ m15 = 0 := by cases m15 <;> simp
 case inr => cases hF10
 have hb := bind_l hF10; clear hF10
 obtain ⟨qrm15, H, hF10⟩ := hb
 refine GoC.seq ?_
 refine GoC.seq ?_
 refine GoC.region ?_
 refine GoO.pure (ps_move rfl rfl) ?_
 refine GoO.pure (ps_geq rfl rfl rfl) ?_
 refine GoO.nil ?_
 refine GoK.code ?_
 refine GoC.condD rfl (fun h16 => ?_) (fun h16 => ?_)
 replace H := ite_t h16 H
 refine GoC.skip ?_
 refine GoK.code ?_
 refine GoC.block ?_
 refine GoC.seq ?_
 refine GoC.region ?_
 refine GoO.pure (ps_move rfl rfl) ?_
 refine GoO.pure (ps_move rfl rfl) ?_
 refine GoO.effB (ef_buildSlice (row ([x8] : List Int)) rfl (Parts.cons _ _ _ _ _ _ _ _ ⟨rfl, rfl⟩ (Part.one _ rfl rfl) rfl rfl (Parts.nil _)) rfl rfl rfl rfl) (fun β17 => ?_)
 have c19 := ck_l H; replace H := ck_r H
 refine GoO.effB (ef_append rfl rfl Rem.p1 (Src.own At.p0 (by first | omega | (simp only [subl_length, cpl_length, List.length_set, List.length_append, List.length_cons, List.length_nil, List.length_replicate, row_len]; omega) | (simp only [subl_length, cpl_length, List.length_set, List.length_append, List.length_cons, List.length_nil, List.length_replicate, row_len]; done))) (cat_row (α := Int) (by first | rfl | omega | (simp only [subl_length, cpl_length, List.length_set, List.length_append, List.length_cons, List.length_nil, List.length_replicate, row_len] <;> first | rfl | omega)) (by first | rfl | omega | (simp only [subl_length, cpl_length, List.length_set, List.length_append, List.length_cons, List.length_nil, List.length_replicate, row_len] <;> first | rfl | omega)) (fun _ _ _ _ => rfl)) (by first | omega | (simp only [subl_length, cpl_length, List.length_set, List.length_append, List.length_cons, List.length_nil, List.length_replicate, row_len]; omega) | (simp only [subl_length, cpl_length, List.length_set, List.length_append, List.length_cons, List.length_nil, List.length_replicate, row_len]; done)) (app_le c19 rfl) rfl rfl rfl) (fun β18 => ?_)
 refine GoO.pure (ps_assign rfl rfl) ?_
 refine GoO.nil ?_
 refine GoK.code ?_
 refine GoC.seq ?_
 refine GoC.drawA (.q 0 (.q 1 (.q 2 (.q 3 (.q 4 (.q 5 (.q 6 (.q 7 (.q 8 (.q 9 (.q 10 (.q 11 (.q 12 (.q 13 (.q 14 (.q 15 (.done))))))))))))))))) follows (by kernel_rfl) ?_
 refine GoP.qN rfl (ps_fieldAddr rfl rfl) ?_
 refine GoP.qN rfl (ps_load rfl At.p2 At.p2 Nat.zero_lt_one rfl rfl) ?_
 refine GoP.qN rfl (ps_move rfl rfl) ?_
 have c20 := ck_l H; replace H := ck_r H
 refine GoP.qN rfl (ps_indexAddrR rfl rfl c20 rfl) ?_
 refine GoP.qN rfl (ps_fieldAddrR rfl rfl) ?_
 refine GoP.qN rfl (ps_loadR rfl (idx_lt c20) rfl rfl) ?_
 refine GoP.qN rfl (ps_fieldAddr rfl rfl) ?_
 refine GoP.qN rfl (ps_load rfl At.p2 At.p2 Nat.zero_lt_one rfl rfl) ?_
 refine GoP.qN rfl (ps_move rfl rfl) ?_
 refine GoP.qN rfl (ps_indexAddrR rfl rfl c20 rfl) ?_
 refine GoP.qN rfl (ps_fieldAddrR rfl rfl) ?_
 refine GoP.qN rfl (ps_loadR rfl (idx_lt c20) rfl rfl) ?_
 have c21 := ck_l H; replace H := ck_r H
 refine GoP.qN rfl (ps_add rfl rfl rfl c21) ?_
 refine GoP.qN rfl (ps_move rfl rfl) ?_
 have c22 := ck_l H; replace H := ck_r H
 refine GoP.qN rfl (ps_sub rfl rfl rfl c22) ?_
 refine GoP.qN rfl (ps_assign rfl rfl) ?_
 refine GoP.done ?_
 refine GoK.code ?_
 refine GoC.seq ?_
 refine GoC.region ?_
 refine GoO.pure (ps_move rfl rfl) ?_
 refine GoO.pure (ps_move rfl rfl) ?_
 have c23 := ck_l H; replace H := ck_r H
 refine GoO.pure (ps_add rfl rfl rfl c23) ?_
 refine GoO.pure (ps_move rfl rfl) ?_
 refine GoO.pure (ps_move rfl rfl) ?_
 have c24 := ck_l H; replace H := ck_r H
 refine GoO.pure (ps_indexAddr0 rfl rfl c24 rfl) ?_
 refine GoO.pure (ps_load rfl At.p5 At.p5 (idx_lt c24) rfl rfl) ?_
 have c25 := ck_l H; replace H := ck_r H
 refine GoO.pure (ps_sub rfl rfl rfl c25) ?_
 refine GoO.pure (ps_assign rfl rfl) ?_
 refine GoO.nil ?_
 refine GoK.code ?_
 refine GoC.region ?_
 refine GoO.pure (ps_move rfl rfl) ?_
 refine GoO.pure (ps_move rfl rfl) ?_
 have c26 := ck_l H; replace H := ck_r H
 refine GoO.pure (ps_indexAddr0 rfl rfl c26 rfl) ?_
 refine GoO.pure (ps_load rfl At.p3 At.p3 (idx_lt c26) rfl rfl) ?_
 refine GoO.pure (ps_move rfl rfl) ?_
 have c27 := ck_l H; replace H := ck_r H
 refine GoO.pure (ps_indexAddr0 rfl rfl c27 rfl) ?_
 refine GoO.pure (ps_loadG (α := Int) (xs := at_) rfl rfl At.p4 At.p4 (idx_lt c26) (idx_lt c27) rfl rfl) ?_
 have c28 := ck_l H; replace H := ck_r H
 refine GoO.pure (ps_sub rfl rfl rfl c28) ?_
 refine GoO.pure (ps_assign rfl rfl) ?_
 refine GoO.nil ?_
 refine GoK.blk ?_
 obtain rfl := Option.some.inj H
 exact GoK.againJ m15' (by omega) ⟨_, _, _, β18, hF10, rfl, rfl⟩ (EnvD.eq rfl (EnvD.cons rfl (DLe.len (by first | rfl | omega | (simp only [row_len, gridC_len, rowO_len, List.length_append, List.length_cons, List.length_nil] <;> first | rfl | omega))) (EnvD.eq rfl (EnvD.eq rfl (EnvD.eq rfl (EnvD.eq rfl (EnvD.eq rfl (EnvD.eq rfl (EnvD.nil))))))))) (TkD.cons _ _ _ _ _ Rem.p0 (HLe.refl _) (TkD.cons _ _ _ _ _ Rem.p1 (HLe.st ⟨⟨trivial, DLe.refl _⟩, DLe.refl _⟩) (TkD.cons _ _ _ _ _ Rem.p1 (HLe.refl _) (TkD.cons _ _ _ _ _ Rem.p1 (HLe.refl _) (TkD.cons _ _ _ _ _ Rem.p1 (HLe.refl _) (TkD.nil _))))))
 replace H := ite_f h16 H
 refine GoC.exit rfl ?_
 obtain rfl := Option.some.inj H
 obtain rfl := Option.some.inj hF10
 exact GoK.meet ⟨_, _, _, β6, rfl, rfl, rfl⟩ (EnvD.cons rfl (DLe.len (by first | rfl | omega | (simp only [row_len, gridC_len, rowO_len] <;> first | rfl | omega))) (EnvD.eq rfl (EnvD.eq rfl (EnvD.eq rfl (EnvD.eq rfl (EnvD.eq rfl (EnvD.nil))))))) (TkD.cons _ _ _ _ _ Rem.p0 (HLe.refl _) (TkD.cons _ _ _ _ _ Rem.p0 (HLe.st ⟨⟨trivial, DLe.refl _⟩, DLe.refl _⟩) (TkD.cons _ _ _ _ _ Rem.p0 (HLe.refl _) (TkD.cons _ _ _ _ _ Rem.p0 (HLe.refl _) (TkD.cons _ _ _ _ _ Rem.p0 (HLe.refl _) (TkD.nil _))))))
 rintro v h ⟨x12, l13, x14, β6, rfl, rfl, rfl⟩
 have H := HK9; clear HK9
 refine GoK.code ?_
 refine GoC.seq ?_
 refine GoC.seq ?_
 refine GoC.region ?_
 refine GoO.pure (ps_move rfl rfl) ?_
 refine GoO.pure (ps_len rfl (by constructor) rfl) ?_
 refine GoO.lenLe (n := l13.length) (x := .tmp 64) rfl (by constructor) own_lenLe (fun ml30 => ?_)
 refine GoO.pure (ps_move rfl rfl) ?_
 refine GoO.nil ?_
 refine GoK.code ?_
 have hb := bind_l H; clear H
 obtain ⟨g36, hl45, HK33⟩ := hb
 refine GoC.blockJ [(2, .own βcolours 1 0 colours.length), (4, .v (.int .i64 c)), (5, .v (.int .i64 d_)), (6, .ptr β1 2 0 0), (12, .own β6 1 0 l13.length)] [.one β6 3 1 (row l13), .one β1 33 2 (st1 (nth [.v (.int .i64 g.n), slD g.as])), .one βcolours 3 1 (row colours)] (fun v h => ∃ (Γ32 : Nat → BK), v = [(1, .own βat_ 1 0 g36.length)] ∧ h = [.one βat_ 26 1 (gridC Γ32 g36), gridH (α := Int) 3 Γ32 g36]) ?_ ?_
 refine GoC.loopJ [(2, _), (4, _), (5, _), (6, _), (12, _), (64, _), (65, _)] [.one β6 3 1 (row l13), .one β1 33 2 (st1 (nth [.v (.int .i64 g.n), slD g.as])), .one βcolours 3 1 (row colours)] (fun mQ v h => ∃ (k37 : Nat) (g31 : (List (List Int))) (Γ32 : Nat → BK), (k37 + mQ = l13.length ∧ forN (colour_swap_B2 g colours l13) mQ k37 g31 = some g36) ∧ v = [(66, .v (.int .i64 ((k37 : Nat) : Int))), (1, .own βat_ 1 0 g31.length)] ∧ h = [.one βat_ 26 1 (gridC Γ32 g31), gridH (α := Int) 3 Γ32 g31]) l13.length ⟨_, _, Γat_, ⟨by omega, hl45⟩, rfl, rfl⟩ (EnvD.eq rfl (EnvD.cons rfl (DLe.len (by first | rfl | omega | (simp only [row_len, gridC_len, rowO_len] <;> first | rfl | omega))) (EnvD.eq rfl (EnvD.eq rfl (EnvD.eq rfl (EnvD.eq rfl (EnvD.eq rfl (EnvD.eq rfl (EnvD.eq rfl (EnvD.nil)))))))))) (TkD.cons _ _ _ _ _ Rem.p2 (HLe.refl _) (TkD.cons _ _ _ _ _ Rem.p2 (HLe.refl _) (TkD.cons _ _ _ _ _ Rem.p0 (HLe.refl _) (TkD.cons _ _ _ _ _ Rem.p0 (HLe.st ⟨⟨trivial, DLe.refl _⟩, DLe.refl _⟩) (TkD.cons _ _ _ _ _ Rem.p0 (HLe.refl _) (TkD.nil _)))))) ?_
 rintro m38 v h ⟨k37, g31, Γ32, ⟨hkk37, hF34⟩, rfl, rfl⟩
 refine GoC.seq ?_
 refine GoC.region ?_
 refine GoO.pure (ps_lss rfl rfl rfl) ?_
 refine GoO.nil ?_
 refine GoK.code ?_
 refine GoC.seq ?_
 refine GoC.condD rfl (fun (hk37 : (k37 : Int) < ((l13.length : Nat) : Int)) => ?_) (fun (hk37 : ¬ (k37 : Int) < ((l13.length : Nat) : Int)) => ?_)
 obtain ⟨m38', rfl⟩ : ∃ x, m38 = x + 1 := ⟨m38 - 1, by omega⟩
 have hb := bind_l hF34; clear hF34
 obtain ⟨qrm38, H, hF34⟩ := hb
 have hnk37 : k37 < l13.length := by omega
 have hIk37 : InI ((k37 : Int) + 1) := inI_len hk37 ml30
 refine GoC.skip ?_
 refine GoK.code ?_
 refine GoC.seq ?_
 refine GoC.block ?_
 refine GoC.seq ?_
 refine GoC.region ?_
 refine GoO.pure (ps_indexAddr0N rfl rfl hnk37 rfl) ?_
 refine GoO.pure (ps_load rfl At.p2 At.p2 hnk37 rfl rfl) ?_
 refine GoO.pure (ps_assign rfl rfl) ?_
 refine GoO.nil ?_
 refine GoK.code ?_
 refine GoC.drawQ (.q 0 (.q 1 (.q 2 (.q 3 (.q 4 (.q 5 (.q 6 (.q 7 (.q 8 (.q 9 (.q 10 (.q 11 (.q 12 (.q 13 (.q 14 (.q 15 (.q 16 (.q 17 (.q 18 (.q 19 (.q 20 (.q 21 (.q 22 (.q 23 (.q 24 (.q 25 (.q 26 (.one 27 (.q 28 (.one 29 (.done))))))))))))))))))))))))))))))) 27 follows (by kernel_rfl) ?_
 refine GoQ.qP rfl rfl (ps_move rfl rfl) ?_
 refine GoQ.qP rfl rfl (ps_fieldAddr rfl rfl) ?_
 refine GoQ.qN rfl (by kernel_rfl) (ps_load rfl At.p3 At.p3 Nat.zero_lt_one rfl rfl) ?_
 refine GoQ.qP rfl rfl (ps_move rfl rfl) ?_
 have c39 := ck_l H; replace H := ck_r H
 refine GoQ.qP rfl rfl (ps_indexAddrR rfl rfl c39 rfl) ?_
 refine GoQ.qP rfl rfl (ps_fieldAddrR rfl rfl) ?_
 refine GoQ.qP rfl rfl (ps_loadR rfl (idx_lt c39) rfl rfl) ?_
 have c40 := ck_l H; replace H := ck_r H
 refine GoQ.qP rfl rfl (ps_indexAddr0 rfl rfl c40 rfl) ?_
 refine GoQ.qN rfl (by kernel_rfl) (ps_load rfl At.p0 At.p0 (idx_lt c40) rfl rfl) ?_
 refine GoQ.qP rfl rfl (ps_move rfl rfl) ?_
 refine GoQ.qP rfl rfl (ps_move rfl rfl) ?_
 have c41 := ck_l H; replace H := ck_r H
 refine GoQ.qP rfl rfl (ps_indexAddr0 rfl rfl c41 rfl) ?_
 refine GoQ.qN rfl (by kernel_rfl) (ps_load rfl At.p4 At.p4 (idx_lt c41) rfl rfl) ?_
 refine GoQ.qP rfl rfl (ps_move rfl rfl) ?_
 refine GoQ.qP rfl rfl (ps_fieldAddr rfl rfl) ?_
 refine GoQ.qN rfl (by kernel_rfl) (ps_load rfl At.p3 At.p3 Nat.zero_lt_one rfl rfl) ?_
 refine GoQ.qP rfl rfl (ps_move rfl rfl) ?_
 refine GoQ.qP rfl rfl (ps_indexAddrR rfl rfl c39 rfl) ?_
 refine GoQ.qP rfl rfl (ps_fieldAddrR rfl rfl) ?_
 refine GoQ.qP rfl rfl (ps_loadR rfl (idx_lt c39) rfl rfl) ?_
 have c42 := ck_l H; replace H := ck_r H
 refine GoQ.qP rfl rfl (ps_indexAddr0 rfl rfl c42 rfl) ?_
 refine GoQ.qN rfl (by kernel_rfl) (ps_load rfl At.p0 At.p0 (idx_lt c42) rfl rfl) ?_
 refine GoQ.qP rfl rfl (ps_move rfl rfl) ?_
 refine GoQ.qP rfl rfl (ps_move rfl rfl) ?_
 refine GoQ.qP rfl rfl (ps_indexAddr0 rfl rfl c41 rfl) ?_
 refine GoQ.qN rfl (by kernel_rfl) (ps_load rfl At.p4 At.p4 (idx_lt c41) rfl rfl) ?_
 have c43 := ck_l H; replace H := ck_r H
 refine GoQ.qP rfl rfl (ps_indexAddr0 rfl rfl c43 rfl) ?_
 refine GoQ.last1 rfl trivial (ef_storeG (α := Int) (xs := g31) (v := 0) rfl rfl rfl rfl At.p1 (upd_row1 (v := 0) rfl) (idx_lt c40) (idx_lt c43) rfl) (Take.cons _ _ _ _ _ Rem.p1 (Take.nil _)) ?_
 refine GoP.leD (Le.reH At.p0 (HLe.gridW (α := Int) (i := ((g.as.getD ((l13.getD k37 (0 : Int)).toNat) El.d).f).toNat) (e := (colours.getD ((l13.getD k37 (0 : Int)).toNat) (0 : Int)).toNat) (v := 0))) ?_
 have c44 := ck_l H; replace H := ck_r H
 refine GoP.qN rfl (ps_indexAddr0 rfl rfl c44 rfl) ?_
 refine GoP.one1 rfl trivial (ef_storeG (α := Int) (xs := (g31.set (((g.as.getD ((l13.getD k37 (0 : Int)).toNat) El.d).f).toNat) ((g31.getD (((g.as.getD ((l13.getD k37 (0 : Int)).toNat) El.d).f).toNat) []).set ((colours.getD ((l13.getD k37 (0 : Int)).toNat) (0 : Int)).toNat) 0))) (v := 0) rfl rfl rfl rfl At.p1 (upd_row1 (v := 0) rfl) (lt_len (idx_lt c42) (by first | rfl | omega | (simp only [row_len, gridC_len, rowO_len, List.length_set, List.length_cons, List.length_nil, List.length_nil] <;> first | rfl | omega))) (by have hgl := (idx_lt c44); simpa only [grid_set_len, eldI] using hgl) rfl) (Take.cons _ _ _ _ _ Rem.p1 (Take.nil _)) ?_
 refine GoP.leD (Le.reH At.p0 (HLe.gridW (α := Int) (i := ((g.as.getD ((l13.getD k37 (0 : Int)).toNat) El.d).t).toNat) (e := (colours.getD ((l13.getD k37 (0 : Int)).toNat) (0 : Int)).toNat) (v := 0))) ?_
 refine GoP.done ?_
 refine GoK.blk ?_
 refine GoK.code ?_
 refine GoC.region ?_
 refine GoO.pure (ps_add rfl rfl rfl hIk37) ?_
 refine GoO.pure (ps_move rfl rfl) ?_
 refine GoO.nil ?_
 obtain rfl := Option.some.inj H
 exact GoK.againJ m38' (by omega) ⟨_, _, Γ32, ⟨by omega, hF34⟩, rfl, rfl⟩ (EnvD.eq rfl (EnvD.cons rfl (DLe.len (by first | rfl | omega | (simp only [row_len, gridC_len, rowO_len, List.length_set, List.length_cons, List.length_nil, List.length_nil] <;> first | rfl | omega))) (EnvD.eq rfl (EnvD.eq rfl (EnvD.eq rfl (EnvD.eq rfl (EnvD.eq rfl (EnvD.eq rfl (EnvD.eq rfl (EnvD.nil)))))))))) (TkD.cons _ _ _ _ _ Rem.p0 (HLe.refl _) (TkD.cons _ _ _ _ _ Rem.p0 (HLe.refl _) (TkD.cons _ _ _ _ _ Rem.p0 (HLe.refl _) (TkD.cons _ _ _ _ _ Rem.p0 (HLe.st ⟨⟨trivial, DLe.refl _⟩, DLe.refl _⟩) (TkD.cons _ _ _ _ _ Rem.p0 (HLe.refl _) (TkD.nil _))))))
 obtain rfl : m38 = 0 := by omega
 refine GoC.exit rfl ?_
 cases hF34
 exact GoK.meet ⟨Γ32, rfl, rfl⟩ (EnvD.cons rfl (DLe.len (by first | rfl | omega | (simp only [row_len, gridC_len, rowO_len] <;> first | rfl | omega))) (EnvD.eq rfl (EnvD.eq rfl (EnvD.eq rfl (EnvD.eq rfl (EnvD.eq rfl (EnvD.nil))))))) (TkD.cons _ _ _ _ _ Rem.p0 (HLe.refl _) (TkD.cons _ _ _ _ _ Rem.p0 (HLe.refl _) (TkD.cons _ _ _ _ _ Rem.p0 (HLe.refl _) (TkD.cons _ _ _ _ _ Rem.p0 (HLe.st ⟨⟨trivial, DLe.refl _⟩, DLe.refl _⟩) (TkD.cons _ _ _ _ _ Rem.p0 (HLe.refl _) (TkD.nil _))))))
 rintro v h ⟨Γ32, rfl, rfl⟩
 have H := HK33; clear HK33
 refine GoK.code ?_
 refine GoC.seq ?_
 refine GoC.region ?_
 refine GoO.pure (ps_move rfl rfl) ?_
 refine GoO.pure (ps_len rfl (by constructor) rfl) ?_
 refine GoO.pure (ps_move rfl rfl) ?_
 refine GoO.nil ?_
 refine GoK.code ?_
 have hb := bind_l H; clear H
 obtain ⟨⟨g52, l53⟩, hl65, HK49⟩ := hb
 refine GoC.blockJ [] [.one β6 3 1 (row l13), .one β1 33 2 (st1 (nth [.v (.int .i64 g.n), slD g.as]))] (fun v h => ∃ (Γ47 : Nat → BK), v = [] ∧ h = [.one βat_ 26 1 (gridC Γ47 g52), gridH (α := Int) 3 Γ47 g52, .one βcolours 3 1 (row l53)]) ?_ ?_
 refine GoC.loopJ [(4, _), (5, _), (6, _), (99, _), (100, _)] [.one β6 3 1 (row l13), .one β1 33 2 (st1 (nth [.v (.int .i64 g.n), slD g.as]))] (fun mQ v h => ∃ (k54 : Nat) (g46 : (List (List Int))) (l48 : (List Int)) (Γ47 : Nat → BK), (k54 + mQ = l13.length ∧ forN (colour_swap_B3 g c d_ l13) mQ k54 (g46, l48) = some (g52, l53)) ∧ v = [(101, .v (.int .i64 ((k54 : Nat) : Int))), (1, .own βat_ 1 0 g46.length), (2, .own βcolours 1 0 l48.length)] ∧ h = [.one βat_ 26 1 (gridC Γ47 g46), gridH (α := Int) 3 Γ47 g46, .one βcolours 3 1 (row l48)]) l13.length ⟨_, _, _, Γ32, ⟨by omega, hl65⟩, rfl, rfl⟩ (EnvD.eq rfl (EnvD.cons rfl (DLe.len (by first | rfl | omega | (simp only [row_len, gridC_len, rowO_len] <;> first | rfl | omega))) (EnvD.cons rfl (DLe.len (by first | rfl | omega | (simp only [row_len, gridC_len, rowO_len] <;> first | rfl | omega))) (EnvD.eq rfl (EnvD.eq rfl (EnvD.eq rfl (EnvD.eq rfl (EnvD.eq rfl (EnvD.nil))))))))) (TkD.cons _ _ _ _ _ Rem.p0 (HLe.refl _) (TkD.cons _ _ _ _ _ Rem.p0 (HLe.refl _) (TkD.cons _ _ _ _ _ Rem.p2 (HLe.refl _) (TkD.cons _ _ _ _ _ Rem.p0 (HLe.refl _) (TkD.cons _ _ _ _ _ Rem.p0 (HLe.st ⟨⟨trivial, DLe.refl _⟩, DLe.refl _⟩) (TkD.nil _)))))) ?_
 rintro m55 v h ⟨k54, g46, l48, Γ47, ⟨hkk54, hF50⟩, rfl, rfl⟩
 refine GoC.seq ?_
 refine GoC.region ?_
 refine GoO.pure (ps_lss rfl rfl rfl) ?_
 refine GoO.nil ?_
 refine GoK.code ?_
 refine GoC.seq ?_
 refine GoC.condD rfl (fun (hk54 : (k54 : Int) < ((l13.length : Nat) : Int)) => ?_) (fun (hk54 : ¬ (k54 : Int) < ((l13.length : Nat) : Int)) => ?_)
 obtain ⟨m55', rfl⟩ : ∃ x, m55 = x + 1 := ⟨m55 - 1, by omega⟩
 have hb := bind_l hF50; clear hF50
 obtain ⟨qrm55, H, hF50⟩ := hb
 have hnk54 : k54 < l13.length := by omega
 have hIk54 : InI ((k54 : Int) + 1) := inI_len hk54 ml30
 refine GoC.skip ?_
 refine GoK.code ?_
 refine GoC.seq ?_
 refine GoC.block ?_
 refine GoC.seq ?_
 refine GoC.region ?_
 refine GoO.pure (ps_indexAddr0N rfl rfl hnk54 rfl) ?_
 refine GoO.pure (ps_load rfl At.p3 At.p3 hnk54 rfl rfl) ?_
 refine GoO.pure (ps_assign rfl rfl) ?_
 refine GoO.nil ?_
 refine GoK.code ?_
 refine GoC.seq ?_
 refine GoC.region ?_
 refine GoO.pure (ps_move rfl rfl) ?_
 refine GoO.pure (ps_move rfl rfl) ?_
 refine GoO.pure (ps_move rfl rfl) ?_
 refine GoO.pure (ps_move rfl rfl) ?_
 have c56 := ck_l H; replace H := ck_r H
 refine GoO.pure (ps_add rfl rfl rfl c56) ?_
 refine GoO.pure (ps_move rfl rfl) ?_
 refine GoO.pure (ps_move rfl rfl) ?_
 have c57 := ck_l H; replace H := ck_r H
 refine GoO.pure (ps_indexAddr0 rfl rfl c57 rfl) ?_
 refine GoO.pure (ps_load rfl At.p2 At.p2 (idx_lt c57) rfl rfl) ?_
 have c58 := ck_l H; replace H := ck_r H
 refine GoO.pure (ps_sub rfl rfl rfl c58) ?_
 refine GoO.pure (ps_indexAddr0 rfl rfl c57 rfl) ?_
 refine GoO.eff1 (ef_store rfl rfl rfl At.p2 (upd_row1 (v := ((c + d_) - (l48.getD ((l13.getD k54 (0 : Int)).toNat) (0 : Int)))) rfl) (idx_lt c57) rfl) ?_
 refine GoO.nil ?_
 refine GoK.code ?_
 refine GoC.drawQ (.q 0 (.q 1 (.q 2 (.q 3 (.q 4 (.q 5 (.q 6 (.q 7 (.q 8 (.q 9 (.q 10 (.q 11 (.q 12 (.q 13 (.q 14 (.q 15 (.q 16 (.q 17 (.q 18 (.q 19 (.q 20 (.q 21 (.q 22 (.q 23 (.q 24 (.q 25 (.q 26 (.q 27 (.q 28 (.q 29 (.q 30 (.one 31 (.q 32 (.one 33 (.done))))))))))))))))))))))))))))))))))) 31 follows (by kernel_rfl) ?_
 refine GoQ.qP rfl rfl (ps_move rfl rfl) ?_
 refine GoQ.qP rfl rfl (ps_fieldAddr rfl rfl) ?_
 refine GoQ.qN rfl (by kernel_rfl) (ps_load rfl At.p4 At.p4 Nat.zero_lt_one rfl rfl) ?_
 refine GoQ.qP rfl rfl (ps_move rfl rfl) ?_
 have c59 := ck_l H; replace H := ck_r H
 refine GoQ.qP rfl rfl (ps_indexAddrR rfl rfl c59 rfl) ?_
 refine GoQ.qP rfl rfl (ps_fieldAddrR rfl rfl) ?_
 refine GoQ.qP rfl rfl (ps_loadR rfl (idx_lt c59) rfl rfl) ?_
 have c60 := ck_l H; replace H := ck_r H
 refine GoQ.qP rfl rfl (ps_indexAddr0 rfl rfl c60 rfl) ?_
 refine GoQ.qN rfl (by kernel_rfl) (ps_load rfl At.p0 At.p0 (idx_lt c60) rfl rfl) ?_
 refine GoQ.qP rfl rfl (ps_move rfl rfl) ?_
 refine GoQ.qP rfl rfl (ps_move rfl rfl) ?_
 refine GoQ.qP rfl rfl (ps_indexAddr0 rfl rfl c57 rfl) ?_
 refine GoQ.qN rfl (by kernel_rfl) (ps_load rfl At.p2 At.p2 (lt_len (idx_lt c57) (by first | rfl | omega | (simp only [row_len, gridC_len, rowO_len, List.length_set] <;> first | rfl | omega))) rfl rfl) ?_
 refine GoQ.qP rfl rfl (ps_move rfl rfl) ?_
 refine GoQ.qP rfl rfl (ps_fieldAddr rfl rfl) ?_
 refine GoQ.qN rfl (by kernel_rfl) (ps_load rfl At.p4 At.p4 Nat.zero_lt_one rfl rfl) ?_
 refine GoQ.qP rfl rfl (ps_move rfl rfl) ?_
 refine GoQ.qP rfl rfl (ps_indexAddrR rfl rfl c59 rfl) ?_
 refine GoQ.qP rfl rfl (ps_fieldAddrR rfl rfl) ?_
 refine GoQ.qP rfl rfl (ps_loadR rfl (idx_lt c59) rfl rfl) ?_
 have c61 := ck_l H; replace H := ck_r H
 refine GoQ.qP rfl rfl (ps_indexAddr0 rfl rfl c61 rfl) ?_
 refine GoQ.qN rfl (by kernel_rfl) (ps_load rfl At.p0 At.p0 (idx_lt c61) rfl rfl) ?_
 refine GoQ.qP rfl rfl (ps_move rfl rfl) ?_
 refine GoQ.qP rfl rfl (ps_move rfl rfl) ?_
 refine GoQ.qP rfl rfl (ps_indexAddr0 rfl rfl c57 rfl) ?_
 refine GoQ.qN rfl (by kernel_rfl) (ps_load rfl At.p2 At.p2 (lt_len (idx_lt c57) (by first | rfl | omega | (simp only [row_len, gridC_len, rowO_len, List.length_set] <;> first | rfl | omega))) rfl rfl) ?_
 refine GoQ.qP rfl rfl (ps_move rfl rfl) ?_
 have c62 := ck_l H; replace H := ck_r H
 refine GoQ.qP rfl rfl (ps_add rfl rfl rfl c62) ?_
 refine GoQ.qP rfl rfl (ps_move rfl rfl) ?_
 refine GoQ.qP rfl rfl (ps_add rfl rfl rfl c62) ?_
 have c63 := ck_l H; replace H := ck_r H
 refine GoQ.qP rfl rfl (ps_indexAddr0 rfl rfl c63 rfl) ?_
 refine GoQ.last1 rfl trivial (ef_storeG (α := Int) (xs := g46) (v := ((l13.getD k54 (0 : Int)) + 1)) rfl rfl rfl rfl At.p1 (upd_row1 (v := ((l13.getD k54 (0 : Int)) + 1)) rfl) (idx_lt c60) (idx_lt c63) rfl) (Take.cons _ _ _ _ _ Rem.p1 (Take.nil _)) ?_
 refine GoP.leD (Le.reH At.p0 (HLe.gridW (α := Int) (i := ((g.as.getD ((l13.getD k54 (0 : Int)).toNat) El.d).f).toNat) (e := ((l48.set ((l13.getD k54 (0 : Int)).toNat) ((c + d_) - (l48.getD ((l13.getD k54 (0 : Int)).toNat) (0 : Int)))).getD ((l13.getD k54 (0 : Int)).toNat) (0 : Int)).toNat) (v := ((l13.getD k54 (0 : Int)) + 1)))) ?_
 have c64 := ck_l H; replace H := ck_r H
 refine GoP.qN rfl (ps_indexAddr0 rfl rfl c64 rfl) ?_
 refine GoP.one1 rfl trivial (ef_storeG (α := Int) (xs := (g46.set (((g.as.getD ((l13.getD k54 (0 : Int)).toNat) El.d).f).toNat) ((g46.getD (((g.as.getD ((l13.getD k54 (0 : Int)).toNat) El.d).f).toNat) []).set (((l48.set ((l13.getD k54 (0 : Int)).toNat) ((c + d_) - (l48.getD ((l13.getD k54 (0 : Int)).toNat) (0 : Int)))).getD ((l13.getD k54 (0 : Int)).toNat) (0 : Int)).toNat) ((l13.getD k54 (0 : Int)) + 1)))) (v := ((l13.getD k54 (0 : Int)) + 1)) rfl rfl rfl rfl At.p1 (upd_row1 (v := ((l13.getD k54 (0 : Int)) + 1)) rfl) (lt_len (idx_lt c61) (by first | rfl | omega | (simp only [row_len, gridC_len, rowO_len, List.length_set, List.length_cons, List.length_nil, List.length_nil] <;> first | rfl | omega))) (by have hgl := (idx_lt c64); simpa only [grid_set_len, eldI] using hgl) rfl) (Take.cons _ _ _ _ _ Rem.p1 (Take.nil _)) ?_
 refine GoP.leD (Le.reH At.p0 (HLe.gridW (α := Int) (i := ((g.as.getD ((l13.getD k54 (0 : Int)).toNat) El.d).t).toNat) (e := ((l48.set ((l13.getD k54 (0 : Int)).toNat) ((c + d_) - (l48.getD ((l13.getD k54 (0 : Int)).toNat) (0 : Int)))).getD ((l13.getD k54 (0 : Int)).toNat) (0 : Int)).toNat) (v := ((l13.getD k54 (0 : Int)) + 1)))) ?_
 refine GoP.done ?_
 refine GoK.blk ?_
 refine GoK.code ?_
 refine GoC.region ?_
 refine GoO.pure (ps_add rfl rfl rfl hIk54) ?_
 refine GoO.pure (ps_move rfl rfl) ?_
 refine GoO.nil ?_
 obtain rfl := Option.some.inj H
 exact GoK.againJ m55' (by omega) ⟨_, _, _, Γ47, ⟨by omega, hF50⟩, rfl, rfl⟩ (EnvD.eq rfl (EnvD.cons rfl (DLe.len (by first | rfl | omega | (simp only [row_len, gridC_len, rowO_len, List.length_set, List.length_cons, List.length_nil, List.length_nil] <;> first | rfl | omega))) (EnvD.cons rfl (DLe.len (by first | rfl | omega | (simp only [row_len, gridC_len, rowO_len, List.length_set] <;> first | rfl | omega))) (EnvD.eq rfl (EnvD.eq rfl (EnvD.eq rfl (EnvD.eq rfl (EnvD.eq rfl (EnvD.nil))))))))) (TkD.cons _ _ _ _ _ Rem.p0 (HLe.refl _) (TkD.cons _ _ _ _ _ Rem.p0 (HLe.refl _) (TkD.cons _ _ _ _ _ Rem.p0 (HLe.refl _) (TkD.cons _ _ _ _ _ Rem.p0 (HLe.refl _) (TkD.cons _ _ _ _ _ Rem.p0 (HLe.st ⟨⟨trivial, DLe.refl _⟩, DLe.refl _⟩) (TkD.nil _))))))
 obtain rfl : m55 = 0 := by omega
 refine GoC.exit rfl ?_
 cases hF50
 exact GoK.meet ⟨Γ47, rfl, rfl⟩ (EnvD.nil) (TkD.cons _ _ _ _ _ Rem.p0 (HLe.refl _) (TkD.cons _ _ _ _ _ Rem.p0 (HLe.refl _) (TkD.cons _ _ _ _ _ Rem.p0 (HLe.refl _) (TkD.cons _ _ _ _ _ Rem.p0 (HLe.refl _) (TkD.cons _ _ _ _ _ Rem.p0 (HLe.st ⟨⟨trivial, DLe.refl _⟩, DLe.refl _⟩) (TkD.nil _))))))
 rintro v h ⟨Γ47, rfl, rfl⟩
 have H := HK49; clear HK49
 obtain rfl := Option.some.inj H
 exact GoK.retL (ds := []) Try.results56 (ResL.nil) (Take.cons _ _ _ _ _ Rem.p2 (Take.cons _ _ _ _ _ Rem.p0 (Take.cons _ _ _ _ _ Rem.p0 (Take.nil _)))) ⟨Γ47, rfl, rfl⟩

def colour_Sides_B1 (r7 : (List Int)) (r9 : (List Int)) : Nat → Int → Option (Int) := fun k19 x14 =>
 ck (k19 < r7.length) <|
 ck (k19 < r9.length) <|
 ck (InI ((r7.getD k19 (0 : Int)) + (r9.getD k19 (0 : Int)))) <|
 some (max x14 ((r7.getD k19 (0 : Int)) + (r9.getD k19 (0 : Int))))
def colour_Sides_B2 (x18 : Int) : Nat → (List (List Int)) → Option ((List (List Int))) := fun k37 g31 =>
 ck (0 ≤ x18 ∧ x18 ≤ 10000000000) <|
 ck (k37 < g31.length) <|
 some (g31.set k37 (List.replicate x18.toNat (0 : Int)))
def colour_Sides_B3 (g : Graph) (r2 : (List Int)) : Nat → ((List Int) × (List (List Int))) → Option ((List Int) × (List (List Int))) := fun k51 (l43, g44) =>
 ((
  ck (0 ≤ (g.as.getD k51 El.d).f ∧ (g.as.getD k51 El.d).f < ((r2.length : Nat) : Int)) <|
  if (r2.getD (((g.as.getD k51 El.d).f).toNat) (0 : Int)) = 1 then
   some ((g.as.getD k51 El.d).t, (g.as.getD k51 El.d).f)
  else
   some ((g.as.getD k51 El.d).f, (g.as.getD k51 El.d).t)) : Option (Int × Int)).bind fun (x54, x55) =>
 ck (0 ≤ x54 ∧ x54 < ((g44.length : Nat) : Int)) <|
 ck (0 ≤ x55 ∧ x55 < ((g44.length : Nat) : Int)) <|
 (slices_Index_int_F (g44.getD x54.toNat []) 0).bind fun r62 =>
 (slices_Index_int_F (g44.getD x55.toNat []) 0).bind fun r64 =>
 ((
  ck (0 ≤ r62 ∧ r62 < (((g44.getD x55.toNat []).length : Nat) : Int)) <|
  if 0 < ((g44.getD x55.toNat []).getD r62.toNat (0 : Int)) then
   (colour_swap_F g g44 l43 x55 r62 r64).bind fun (l73, l74) =>
   ck (l73.length = l43.length) <|
   ck (l74.length = g44.length) <|
   some (l73, l74)
  else
   some (l43, g44)) : Option ((List Int) × (List (List Int)))).bind fun (l66, g67) =>
 ck (k51 < l66.length) <|
 ck (0 ≤ x54 ∧ x54 < ((g67.length : Nat) : Int)) <|
 ck (0 ≤ x55 ∧ x55 < ((g67.length : Nat) : Int)) <|
 ck (0 ≤ r62 ∧ r62 < (((g67.getD x54.toNat []).length : Nat) : Int)) <|
 ck (0 ≤ r62 ∧ r62 < (((g67.getD x55.toNat []).length : Nat) : Int)) <|
 some ((l66.set k51 r62), ((g67.set x54.toNat ((g67.getD x54.toNat []).set r62.toNat (((k51 + 1) : Nat) : Int))).set x55.toNat (((g67.set x54.toNat ((g67.getD x54.toNat []).set r62.toNat (((k51 + 1) : Nat) : Int))).getD x55.toNat []).set r62.toNat (((k51 + 1) : Nat) : Int))))
def colour_Sides_F (g : Graph) : Option ((List Int) × Int × Int) :=
 (walk_Sides_F g).bind fun (r2, r4) =>
 if r4 ≠ 0 then
  some ([], 0, r4)
 else
  (graph_Degrees_F g).bind fun (r7, r9, r11) =>
  ck (InI g.n) <|
  (forN (colour_Sides_B1 r7 r9) g.n.toNat 0 0).bind fun x18 =>
  ck (0 ≤ ((g.as.length : Nat) : Int) ∧ ((g.as.length : Nat) : Int) ≤ 10000000000) <|
  ck (0 ≤ g.n ∧ g.n ≤ 10000000000) <|
  (forN (colour_Sides_B2 x18) g.n.toNat 0 (List.replicate g.n.toNat ([] : List Int))).bind fun g36 =>
  (forN (colour_Sides_B3 g r2) g.as.length 0 ((List.replicate (((g.as.length : Nat) : Int).toNat) (0 : Int)), g36)).bind fun (l49, g50) =>
  some (l49, x18, 0)
def colour_Sides_P (out : (List Int) × Int × Int) (d : D) (H : List HL) : Prop := ∃ β1 : BK, d = .tp 3 (nth [.own β1 1 0 out.1.length, .v (.int .i64 out.2.1), .v (.int .i64 out.2.2)]) ∧ H = [.one β1 3 1 (row out.1)]
theorem colour_Sides_I (out : (List Int) × Int × Int) : IndepP (colour_Sides_P out) := IndepP.of (by rintro _ _ ⟨β1, rfl, rfl⟩; exact ⟨inferInstance, inferInstance⟩)
set_option maxRecDepth 100000 in
set_option maxHeartbeats 4000000 in
theorem colour_Sides_spec (g : Graph) {out : (List Int) × Int × Int} (H : colour_Sides_F g = some out) : Does Try.prog 21 [.ag 2 (nth [.v (.int .i64 g.n), slD g.as])] [] (colour_Sides_P out) := by
 unfold colour_Sides_F at H
 refine Does.intro Try.func21 rfl Try.ntmps21 rfl fun w0 I0 => ?_
 refine GoC.seq ?_
 refine GoC.region ?_
 refine GoO.effB (ef_boxAg rfl rfl) (fun β1 => ?_)
 refine GoO.pure (ps_assign rfl rfl) ?_
 refine GoO.pure (ps_assign rfl rfl) ?_
 refine GoO.pure (ps_assign rfl rfl) ?_
 refine GoO.nil ?_
 refine GoK.code ?_
 refine GoC.seq ?_
 refine GoC.region ?_
 refine GoO.pure (ps_loadAg rfl At.p0 At.p0 Nat.zero_lt_one rfl rfl) ?_
 have hb := bind_l H; clear H
 obtain ⟨⟨r2, r4⟩, e5, H⟩ := hb
 refine GoO.effC (ef_call rfl (Take.nil _) (Take.nil _) (walk_Sides_spec g e5) (LendL.cons (Lend.agA ⟨⟨trivial, Lend.refl _ _⟩, Lend.refl _ _⟩) (LendL.nil)) rfl (walk_Sides_I (r2, r4))) (fun rr HH hp => ?_)
 obtain ⟨β3, rfl, rfl⟩ := hp
 refine GoO.pure (ps_move rfl rfl) ?_
 refine GoO.pure (ps_extract rfl rfl rfl) ?_
 refine GoO.pure (ps_extract rfl rfl rfl) ?_
 refine GoO.pure (ps_assign rfl rfl) ?_
 refine GoO.pure (ps_assign rfl rfl) ?_
 refine GoO.nil ?_
 refine GoK.code ?_
 refine GoC.seq ?_
 refine GoC.seq ?_
 refine GoC.region ?_
 refine GoO.pure (ps_move rfl rfl) ?_
 refine GoO.pure (ps_neq rfl rfl rfl) ?_
 refine GoO.nil ?_
 refine GoK.code ?_
 refine GoC.condD rfl (fun h6 => ?_) (fun h6 => ?_)
 replace H := ite_t h6 H
 refine GoC.seq ?_
 refine GoC.region ?_
 refine GoO.pure (ps_move rfl rfl) ?_
 refine GoO.pure (ps_assign rfl rfl) ?_
 refine GoO.pure (ps_assign rfl rfl) ?_
 refine GoO.pure (ps_assign rfl rfl) ?_
 refine GoO.nil ?_
 refine GoK.code ?_
 obtain rfl := Option.some.inj H
 refine GoC.le (le_row0 3 1 (row ([] : List Int)) rfl) ?_
 exact GoC.retL (ds := [.own ⟨0, 0, 0⟩ 1 0 0, .v (.int .i64 0), .v (.int .i64 r4)]) Try.results21 (ResL.cons (ResD.le (ResD.tmp rfl) (by exact DLe.nilOwn)) (ResL.cons (ResD.tmp rfl) (ResL.cons (ResD.tmp rfl) (ResL.nil)))) (Take.cons _ _ _ _ _ Rem.p0 (Take.nil _)) ⟨⟨0, 0, 0⟩, rfl, rfl⟩
 replace H := ite_f h6 H
 refine GoC.skip ?_
 refine GoK.code ?_
 refine GoC.seq ?_
 refine GoC.region ?_
 refine GoO.pure (ps_loadAg rfl At.p1 At.p1 Nat.zero_lt_one rfl rfl) ?_
 have hb := bind_l H; clear H
 obtain ⟨⟨r7, r9, r11⟩, e12, H⟩ := hb
 refine GoO.effC (ef_call rfl (Take.nil _) (Take.nil _) (graph_Degrees_spec g e12) (LendL.cons (Lend.agA ⟨⟨trivial, Lend.refl _ _⟩, Lend.refl _ _⟩) (LendL.nil)) rfl (graph_Degrees_I (r7, r9, r11))) (fun rr HH hp => ?_)
 obtain ⟨β8, β10, rfl, rfl⟩ := hp
 refine GoO.pure (ps_move rfl rfl) ?_
 refine GoO.pure (ps_extract rfl rfl rfl) ?_
 refine GoO.pure (ps_extract rfl rfl rfl) ?_
 refine GoO.pure (ps_extract rfl rfl rfl) ?_
 refine GoO.pure (ps_assign rfl rfl) ?_
 refine GoO.pure (ps_assign rfl rfl) ?_
 refine GoO.pure (ps_assign rfl rfl) ?_
 refine GoO.nil ?_
 refine GoK.code ?_
 refine GoC.seq ?_
 refine GoC.region ?_
 refine GoO.pure (ps_assign rfl rfl) ?_
 refine GoO.nil ?_
 refine GoK.code ?_
 refine GoC.seq ?_
 refine GoC.seq ?_
 refine GoC.region ?_
 refine GoO.pure (ps_fieldAddr rfl rfl) ?_
 refine GoO.pure (ps_load rfl At.p3 At.p3 Nat.zero_lt_one rfl rfl) ?_
 refine GoO.pure (ps_move rfl rfl) ?_
 refine GoO.nil ?_
 refine GoK.code ?_
 have c13 := ck_l H; replace H := ck_r H
 have hb := bind_l H; clear H
 obtain ⟨x18, hl24, HK15⟩ := hb
 refine GoC.blockJ [(1, .ptr β1 2 0 0), (5, .own β3 1 0 r2.length)] [.one β8 3 1 (row r7), .one β10 3 1 (row r9), .one β3 3 1 (row r2), .one β1 33 2 (st1 (nth [.v (.int .i64 g.n), slD g.as]))] (fun v h => v = [(10, .v (.int .i64 x18))] ∧ h = []) ?_ ?_
 refine GoC.loopJ [(1, _), (5, _), (7, _), (8, _), (36, _)] [.one β8 3 1 (row r7), .one β10 3 1 (row r9), .one β3 3 1 (row r2), .one β1 33 2 (st1 (nth [.v (.int .i64 g.n), slD g.as]))] (fun mQ v h => ∃ (k19 : Nat) (x14 : Int), (k19 + mQ = g.n.toNat ∧ forN (colour_Sides_B1 r7 r9) mQ k19 x14 = some x18) ∧ v = [(37, .v (.int .i64 ((k19 : Nat) : Int))), (10, .v (.int .i64 x14))] ∧ h = []) g.n.toNat ⟨_, _, ⟨by omega, hl24⟩, rfl, rfl⟩ (EnvD.eq rfl (EnvD.eq rfl (EnvD.eq rfl (EnvD.eq rfl (EnvD.eq rfl (EnvD.eq rfl (EnvD.eq rfl (EnvD.nil)))))))) (TkD.cons _ _ _ _ _ Rem.p0 (HLe.refl _) (TkD.cons _ _ _ _ _ Rem.p0 (HLe.refl _) (TkD.cons _ _ _ _ _ Rem.p0 (HLe.refl _) (TkD.cons _ _ _ _ _ Rem.p0 (HLe.st ⟨⟨trivial, DLe.refl _⟩, DLe.refl _⟩) (TkD.nil _))))) ?_
 rintro m20 v h ⟨k19, x14, ⟨hkk19, hF16⟩, rfl, rfl⟩
 refine GoC.seq ?_
 refine GoC.region ?_
 refine GoO.pure (ps_lss rfl rfl rfl) ?_
 refine GoO.nil ?_
 refine GoK.code ?_
 refine GoC.seq ?_
 refine GoC.condD rfl (fun (hk19 : (k19 : Int) < g.n) => ?_) (fun (hk19 : ¬ (k19 : Int) < g.n) => ?_)
 obtain ⟨m20', rfl⟩ : ∃ x, m20 = x + 1 := ⟨m20 - 1, by omega⟩
 have hb := bind_l hF16; clear hF16
 obtain ⟨qrm20, H, hF16⟩ := hb
 have hnk19 : k19 < g.n.toNat := by omega
 have hIk19 : InI ((k19 : Int) + 1) := inI_cnt hk19 c13
 refine GoC.skip ?_
 refine GoK.code ?_
 refine GoC.seq ?_
 refine GoC.block ?_
 refine GoC.seq ?_
 refine GoC.region ?_
 refine GoO.pure (ps_move rfl rfl) ?_
 refine GoO.pure (ps_assign rfl rfl) ?_
 refine GoO.nil ?_
 refine GoK.code ?_
 refine GoC.drawA (.q 0 (.q 1 (.q 2 (.q 3 (.q 4 (.q 5 (.q 6 (.q 7 (.q 8 (.q 9 (.q 10 (.q 11 (.done))))))))))))) follows (by kernel_rfl) ?_
 refine GoP.qN rfl (ps_move rfl rfl) ?_
 refine GoP.qN rfl (ps_move rfl rfl) ?_
 refine GoP.qN rfl (ps_move rfl rfl) ?_
 have c21 := ck_l H; replace H := ck_r H
 refine GoP.qN rfl (ps_indexAddr0N rfl rfl c21 rfl) ?_
 refine GoP.qN rfl (ps_load rfl At.p0 At.p0 c21 rfl rfl) ?_
 refine GoP.qN rfl (ps_move rfl rfl) ?_
 refine GoP.qN rfl (ps_move rfl rfl) ?_
 have c22 := ck_l H; replace H := ck_r H
 refine GoP.qN rfl (ps_indexAddr0N rfl rfl c22 rfl) ?_
 refine GoP.qN rfl (ps_load rfl At.p1 At.p1 c22 rfl rfl) ?_
 have c23 := ck_l H; replace H := ck_r H
 refine GoP.qN rfl (ps_add rfl rfl rfl c23) ?_
 refine GoP.qN rfl (ps_max rfl rfl rfl) ?_
 refine GoP.qN rfl (ps_assign rfl rfl) ?_
 refine GoP.done ?_
 refine GoK.blk ?_
 refine GoK.code ?_
 refine GoC.region ?_
 refine GoO.pure (ps_add rfl rfl rfl hIk19) ?_
 refine GoO.pure (ps_move rfl rfl) ?_
 refine GoO.nil ?_
 obtain rfl := Option.some.inj H
 exact GoK.againJ m20' (by omega) ⟨_, _, ⟨by omega, hF16⟩, rfl, rfl⟩ (EnvD.eq rfl (EnvD.eq rfl (EnvD.eq rfl (EnvD.eq rfl (EnvD.eq rfl (EnvD.eq rfl (EnvD.eq rfl (EnvD.nil)))))))) (TkD.cons _ _ _ _ _ Rem.p0 (HLe.refl _) (TkD.cons _ _ _ _ _ Rem.p0 (HLe.refl _) (TkD.cons _ _ _ _ _ Rem.p0 (HLe.refl _) (TkD.cons _ _ _ _ _ Rem.p0 (HLe.st ⟨⟨trivial, DLe.refl _⟩, DLe.refl _⟩) (TkD.nil _)))))
 obtain rfl : m20 = 0 := by omega
 refine GoC.exit rfl ?_
 cases hF16
 exact GoK.meet ⟨rfl, rfl⟩ (EnvD.eq rfl (EnvD.eq rfl (EnvD.eq rfl (EnvD.nil)))) (TkD.cons _ _ _ _ _ Rem.p0 (HLe.refl _) (TkD.cons _ _ _ _ _ Rem.p0 (HLe.refl _) (TkD.cons _ _ _ _ _ Rem.p0 (HLe.refl _) (TkD.cons _ _ _ _ _ Rem.p0 (HLe.st ⟨⟨trivial, DLe.refl _⟩, DLe.refl _⟩) (TkD.nil _)))))
 rintro v h ⟨rfl, rfl⟩
 have H := HK15; clear HK15
 refine GoK.code ?_
 refine GoC.seq ?_
 refine GoC.region ?_
 refine GoO.pure (ps_fieldAddr rfl rfl) ?_
 refine GoO.pure (ps_load rfl At.p3 At.p3 Nat.zero_lt_one rfl rfl) ?_
 refine GoO.pure (ps_len rfl (by constructor) rfl) ?_
 refine GoO.lenLe (n := g.as.length) (x := .tmp 53) rfl (by constructor) sl_lenLe (fun ml25 => ?_)
 have c27 := ck_l H; replace H := ck_r H
 refine GoO.effB (ef_makeZ rfl rfl c27 rfl rfl rfl) (fun β26 => ?_)
 refine GoO.le (Le.reH At.p0 (HLe.zeros (α := Int) ⟨trivial, DLe.refl _⟩)) ?_
 refine GoO.pure (ps_assign rfl rfl) ?_
 refine GoO.nil ?_
 refine GoK.code ?_
 refine GoC.seq ?_
 refine GoC.region ?_
 refine GoO.pure (ps_fieldAddr rfl rfl) ?_
 refine GoO.pure (ps_load rfl At.p4 At.p4 Nat.zero_lt_one rfl rfl) ?_
 have c29 := ck_l H; replace H := ck_r H
 refine GoO.effB (ef_makeZ rfl rfl c29 rfl rfl rfl) (fun β28 => ?_)
 refine GoO.le (Le.reH At.p0 (HLe.grid0Z (α := Int) (n := g.n.toNat) (fun _ => DLe.nilOwn))) ?_
 refine GoO.le (Le.grid0 3 Int g.n.toNat) ?_
 refine GoO.pure (ps_assign rfl rfl) ?_
 refine GoO.nil ?_
 refine GoK.code ?_
 refine GoC.seq ?_
 refine GoC.seq ?_
 refine GoC.region ?_
 refine GoO.pure (ps_move rfl rfl) ?_
 refine GoO.pure (ps_len rfl (by constructor) rfl) ?_
 refine GoO.lenLe (n := g.n.toNat) (x := .tmp 59) rfl (by constructor) own_lenLe (fun ml30 => ?_)
 refine GoO.pure (ps_move rfl rfl) ?_
 refine GoO.nil ?_
 refine GoK.code ?_
 have hb := bind_l H; clear H
 obtain ⟨g36, hl42, HK33⟩ := hb
 refine GoC.blockJ [(1, .ptr β1 2 0 0), (5, .own β3 1 0 r2.length), (10, .v (.int .i64 x18)), (12, .own β26 1 0 (((g.as.length : Nat) : Int).toNat))] [.one β26 3 1 (row (List.replicate (((g.as.length : Nat) : Int).toNat) (0 : Int))), .one β8 3 1 (row r7), .one β10 3 1 (row r9), .one β3 3 1 (row r2), .one β1 33 2 (st1 (nth [.v (.int .i64 g.n), slD g.as]))] (fun v h => ∃ (Γ32 : Nat → BK), v = [(13, .own β28 1 0 g36.length)] ∧ h = [.one β28 26 1 (gridC Γ32 g36), gridH (α := Int) 3 Γ32 g36]) ?_ ?_
 refine GoC.loopJ [(1, _), (5, _), (10, _), (12, _), (60, _)] [.one β26 3 1 (row (List.replicate (((g.as.length : Nat) : Int).toNat) (0 : Int))), .one β8 3 1 (row r7), .one β10 3 1 (row r9), .one β3 3 1 (row r2), .one β1 33 2 (st1 (nth [.v (.int .i64 g.n), slD g.as]))] (fun mQ v h => ∃ (k37 : Nat) (g31 : (List (List Int))) (Γ32 : Nat → BK), (k37 + mQ = g.n.toNat ∧ forN (colour_Sides_B2 x18) mQ k37 g31 = some g36) ∧ v = [(61, .v (.int .i64 ((k37 : Nat) : Int))), (13, .own β28 1 0 g31.length)] ∧ h = [.one β28 26 1 (gridC Γ32 g31), gridH (α := Int) 3 Γ32 g31]) g.n.toNat ⟨_, _, (fun _ => (⟨0, 0, 0⟩ : BK)), ⟨by omega, hl42⟩, rfl, rfl⟩ (EnvD.eq rfl (EnvD.cons rfl (DLe.len (by first | rfl | omega | (simp only [row_len, gridC_len, rowO_len, List.length_cons, List.length_nil, List.length_replicate, List.length_nil] <;> first | rfl | omega))) (EnvD.eq rfl (EnvD.eq rfl (EnvD.eq rfl (EnvD.eq rfl (EnvD.eq rfl (EnvD.nil)))))))) (TkD.cons _ _ _ _ _ Rem.p1 (HLe.refl _) (TkD.cons _ _ _ _ _ Rem.p0 (HLe.refl _) (TkD.cons _ _ _ _ _ Rem.p0 (HLe.refl _) (TkD.cons _ _ _ _ _ Rem.p0 (HLe.refl _) (TkD.cons _ _ _ _ _ Rem.p0 (HLe.refl _) (TkD.cons _ _ _ _ _ Rem.p0 (HLe.refl _) (TkD.cons _ _ _ _ _ Rem.p0 (HLe.st ⟨⟨trivial, DLe.refl _⟩, DLe.refl _⟩) (TkD.nil _)))))))) ?_
 rintro m38 v h ⟨k37, g31, Γ32, ⟨hkk37, hF34⟩, rfl, rfl⟩
 refine GoC.seq ?_
 refine GoC.region ?_
 refine GoO.pure (ps_lss rfl rfl rfl) ?_
 refine GoO.nil ?_
 refine GoK.code ?_
 refine GoC.seq ?_
 refine GoC.condD rfl (fun (hk37 : (k37 : Int) < ((g.n.toNat : Nat) : Int)) => ?_) (fun (hk37 : ¬ (k37 : Int) < ((g.n.toNat : Nat) : Int)) => ?_)
 obtain ⟨m38', rfl⟩ : ∃ x, m38 = x + 1 := ⟨m38 - 1, by omega⟩
 have hb := bind_l hF34; clear hF34
 obtain ⟨qrm38, H, hF34⟩ := hb
 have hnk37 : k37 < g.n.toNat := by omega
 have hIk37 : InI ((k37 : Int) + 1) := inI_len hk37 ml30
 refine GoC.skip ?_
 refine GoK.code ?_
 refine GoC.seq ?_
 refine GoC.block ?_
 refine GoC.seq ?_
 refine GoC.region ?_
 refine GoO.pure (ps_move rfl rfl) ?_
 refine GoO.pure (ps_assign rfl rfl) ?_
 refine GoO.nil ?_
 refine GoK.code ?_
 refine GoC.region ?_
 refine GoO.pure (ps_move rfl rfl) ?_
 refine GoO.pure (ps_move rfl rfl) ?_
 refine GoO.pure (ps_move rfl rfl) ?_
 have c40 := ck_l H; replace H := ck_r H
 refine GoO.effB (ef_makeZ rfl rfl c40 rfl rfl rfl) (fun β39 => ?_)
 refine GoO.le (Le.reH At.p0 (HLe.zeros (α := Int) ⟨trivial, DLe.refl _⟩)) ?_
 have c41 := ck_l H; replace H := ck_r H
 refine GoO.pure (ps_indexAddr0N rfl rfl c41 rfl) ?_
 refine GoO.eff1 (ef_store rfl rfl rfl At.p1 (upd_grid (α := Int) (ys := (List.replicate x18.toNat (0 : Int))) rfl (by first | rfl | omega | (simp only [subl_length, cpl_length, List.length_set, List.length_append, List.length_cons, List.length_nil, List.length_replicate, row_len]; omega) | (simp only [subl_length, cpl_length, List.length_set, List.length_append, List.length_cons, List.length_nil, List.length_replicate, row_len]; done) | simp)) c41 rfl) ?_
 refine GoO.le (Le.absorb (α := Int) (B := Γ32) (xs := g31) (ys := (List.replicate x18.toNat (0 : Int))) (i := k37) Rem.p0 Rem.p1 rfl (fun _ _ => rfl) (fun _ _ => rfl)) ?_
 refine GoO.nil ?_
 refine GoK.blk ?_
 refine GoK.code ?_
 refine GoC.region ?_
 refine GoO.pure (ps_add rfl rfl rfl hIk37) ?_
 refine GoO.pure (ps_move rfl rfl) ?_
 refine GoO.nil ?_
 obtain rfl := Option.some.inj H
 exact GoK.againJ m38' (by omega) ⟨_, _, (updF Γ32 k37 β39), ⟨by omega, hF34⟩, rfl, rfl⟩ (EnvD.eq rfl (EnvD.cons rfl (DLe.len (by first | rfl | omega | (simp only [row_len, gridC_len, rowO_len, List.length_set, List.length_replicate] <;> first | rfl | omega))) (EnvD.eq rfl (EnvD.eq rfl (EnvD.eq rfl (EnvD.eq rfl (EnvD.eq rfl (EnvD.nil)))))))) (TkD.cons _ _ _ _ _ Rem.p1 (HLe.refl _) (TkD.cons _ _ _ _ _ Rem.p0 (HLe.refl _) (TkD.cons _ _ _ _ _ Rem.p0 (HLe.refl _) (TkD.cons _ _ _ _ _ Rem.p0 (HLe.refl _) (TkD.cons _ _ _ _ _ Rem.p0 (HLe.refl _) (TkD.cons _ _ _ _ _ Rem.p0 (HLe.refl _) (TkD.cons _ _ _ _ _ Rem.p0 (HLe.st ⟨⟨trivial, DLe.refl _⟩, DLe.refl _⟩) (TkD.nil _))))))))
 obtain rfl : m38 = 0 := by omega
 refine GoC.exit rfl ?_
 cases hF34
 exact GoK.meet ⟨Γ32, rfl, rfl⟩ (EnvD.cons rfl (DLe.len (by first | rfl | omega | (simp only [row_len, gridC_len, rowO_len] <;> first | rfl | omega))) (EnvD.eq rfl (EnvD.eq rfl (EnvD.eq rfl (EnvD.cons rfl (DLe.len (by first | rfl | omega | (simp only [row_len, gridC_len, rowO_len, List.length_replicate] <;> first | rfl | omega))) (EnvD.nil)))))) (TkD.cons _ _ _ _ _ Rem.p0 (HLe.refl _) (TkD.cons _ _ _ _ _ Rem.p0 (HLe.refl _) (TkD.cons _ _ _ _ _ Rem.p0 (HLe.refl _) (TkD.cons _ _ _ _ _ Rem.p0 (HLe.refl _) (TkD.cons _ _ _ _ _ Rem.p0 (HLe.refl _) (TkD.cons _ _ _ _ _ Rem.p0 (HLe.refl _) (TkD.cons _ _ _ _ _ Rem.p0 (HLe.st ⟨⟨trivial, DLe.refl _⟩, DLe.refl _⟩) (TkD.nil _))))))))
 rintro v h ⟨Γ32, rfl, rfl⟩
 have H := HK33; clear HK33
 refine GoK.code ?_
 refine GoC.seq ?_
 refine GoC.seq ?_
 refine GoC.region ?_
 refine GoO.pure (ps_fieldAddr rfl rfl) ?_
 refine GoO.pure (ps_load rfl At.p6 At.p6 Nat.zero_lt_one rfl rfl) ?_
 refine GoO.pure (ps_len rfl (by constructor) rfl) ?_
 refine GoO.pure (ps_move rfl rfl) ?_
 refine GoO.nil ?_
 refine GoK.code ?_
 have hb := bind_l H; clear H
 obtain ⟨⟨l49, g50⟩, hl84, HK46⟩ := hb
 refine GoC.blockJ [(10, .v (.int .i64 x18))] [.one β8 3 1 (row r7), .one β10 3 1 (row r9), .one β3 3 1 (row r2), .one β1 33 2 (st1 (nth [.v (.int .i64 g.n), slD g.as]))] (fun v h => ∃ (Γ45 : Nat → BK), v = [(12, .own β26 1 0 l49.length)] ∧ h = [.one β26 3 1 (row l49), .one β28 26 1 (gridC Γ45 g50), gridH (α := Int) 3 Γ45 g50]) ?_ ?_
 refine GoC.loopJ [(1, _), (5, _), (10, _), (71, _), (72, _)] [.one β8 3 1 (row r7), .one β10 3 1 (row r9), .one β3 3 1 (row r2), .one β1 33 2 (st1 (nth [.v (.int .i64 g.n), slD g.as]))] (fun mQ v h => ∃ (k51 : Nat) (l43 : (List Int)) (g44 : (List (List Int))) (Γ45 : Nat → BK), (k51 + mQ = g.as.length ∧ forN (colour_Sides_B3 g r2) mQ k51 (l43, g44) = some (l49, g50)) ∧ v = [(73, .v (.int .i64 ((k51 : Nat) : Int))), (12, .own β26 1 0 l43.length), (13, .own β28 1 0 g44.length)] ∧ h = [.one β26 3 1 (row l43), .one β28 26 1 (gridC Γ45 g44), gridH (α := Int) 3 Γ45 g44]) g.as.length ⟨_, _, _, Γ32, ⟨by omega, hl84⟩, rfl, rfl⟩ (EnvD.eq rfl (EnvD.cons rfl (DLe.len (by first | rfl | omega | (simp only [row_len, gridC_len, rowO_len, List.length_replicate] <;> first | rfl | omega))) (EnvD.cons rfl (DLe.len (by first | rfl | omega | (simp only [row_len, gridC_len, rowO_len] <;> first | rfl | omega))) (EnvD.eq rfl (EnvD.eq rfl (EnvD.eq rfl (EnvD.eq rfl (EnvD.eq rfl (EnvD.nil))))))))) (TkD.cons _ _ _ _ _ Rem.p2 (HLe.refl _) (TkD.cons _ _ _ _ _ Rem.p0 (HLe.refl _) (TkD.cons _ _ _ _ _ Rem.p0 (HLe.refl _) (TkD.cons _ _ _ _ _ Rem.p0 (HLe.refl _) (TkD.cons _ _ _ _ _ Rem.p0 (HLe.refl _) (TkD.cons _ _ _ _ _ Rem.p0 (HLe.refl _) (TkD.cons _ _ _ _ _ Rem.p0 (HLe.st ⟨⟨trivial, DLe.refl _⟩, DLe.refl _⟩) (TkD.nil _)))))))) ?_
 rintro m52 v h ⟨k51, l43, g44, Γ45, ⟨hkk51, hF47⟩, rfl, rfl⟩
 refine GoC.seq ?_
 refine GoC.region ?_
 refine GoO.pure (ps_lss rfl rfl rfl) ?_
 refine GoO.nil ?_
 refine GoK.code ?_
 refine GoC.seq ?_
 refine GoC.condD rfl (fun (hk51 : (k51 : Int) < ((g.as.length : Nat) : Int)) => ?_) (fun (hk51 : ¬ (k51 : Int) < ((g.as.length : Nat) : Int)) => ?_)
 obtain ⟨m52', rfl⟩ : ∃ x, m52 = x + 1 := ⟨m52 - 1, by omega⟩
 have hb := bind_l hF47; clear hF47
 obtain ⟨qrm52, H, hF47⟩ := hb
 have hnk51 : k51 < g.as.length := by omega
 have hIk51 : InI ((k51 : Int) + 1) := inI_len hk51 ml25
 refine GoC.skip ?_
 refine GoK.code ?_
 refine GoC.seq ?_
 refine GoC.block ?_
 refine GoC.seq ?_
 refine GoC.region ?_
 refine GoO.pure (ps_move rfl rfl) ?_
 refine GoO.pure (ps_indexAddrRN rfl rfl hnk51 rfl) ?_
 refine GoO.pure (ps_loadAgR rfl hnk51 rfl rfl) ?_
 refine GoO.effB (ef_alloc rfl) (fun β53 => ?_)
 refine GoO.pure (ps_assign rfl rfl) ?_
 refine GoO.eff1 (ef_storeAg rfl rfl At.p0 upd_whole Nat.zero_lt_one rfl) ?_
 refine GoO.nil ?_
 refine GoK.code ?_
 refine GoC.seq ?_
 refine GoC.drawA (.q 0 (.q 1 (.q 2 (.q 3 (.q 4 (.q 5 (.done))))))) follows (by kernel_rfl) ?_
 refine GoP.qN rfl (ps_fieldAddr rfl rfl) ?_
 refine GoP.qN rfl (ps_load rfl At.p0 At.p0 Nat.zero_lt_one rfl rfl) ?_
 refine GoP.qN rfl (ps_fieldAddr rfl rfl) ?_
 refine GoP.qN rfl (ps_load rfl At.p0 At.p0 Nat.zero_lt_one rfl rfl) ?_
 refine GoP.qN rfl (ps_assign rfl rfl) ?_
 refine GoP.qN rfl (ps_assign rfl rfl) ?_
 refine GoP.done ?_
 refine GoK.code ?_
 have hb := bind_l H; clear H
 obtain ⟨⟨x54, x55⟩, H, HK56⟩ := hb
 refine GoC.seqJ [(1, .ptr β1 2 0 0), (5, .own β3 1 0 r2.length), (10, .v (.int .i64 x18)), (12, .own β26 1 0 l43.length), (13, .own β28 1 0 g44.length), (15, .v (.int .i64 ((k51 : Nat) : Int))), (71, slD g.as), (72, .v (.int .i64 ((g.as.length : Nat) : Int))), (73, .v (.int .i64 ((k51 : Nat) : Int)))] [.one β53 39 3 (st1 (nth [.v (.int .i64 ((g.as.getD k51 El.d).f)), .v (.int .i64 ((g.as.getD k51 El.d).t)), .v (.int .i64 ((g.as.getD k51 El.d).c))])), .one β26 3 1 (row l43), .one β28 26 1 (gridC Γ45 g44), gridH (α := Int) 3 Γ45 g44, .one β8 3 1 (row r7), .one β10 3 1 (row r9), .one β3 3 1 (row r2), .one β1 33 2 (st1 (nth [.v (.int .i64 g.n), slD g.as]))] (fun v h => v = [(17, .v (.int .i64 x54)), (18, .v (.int .i64 x55))] ∧ h = []) ?_ ?_
 refine GoC.seq ?_
 refine GoC.region ?_
 refine GoO.pure (ps_move rfl rfl) ?_
 refine GoO.pure (ps_move rfl rfl) ?_
 have c58 := ck_l H; replace H := ck_r H
 refine GoO.pure (ps_indexAddr0 rfl rfl c58 rfl) ?_
 refine GoO.pure (ps_load rfl At.p6 At.p6 (idx_lt c58) rfl rfl) ?_
 refine GoO.pure (ps_eql rfl rfl rfl) ?_
 refine GoO.nil ?_
 refine GoK.code ?_
 refine GoC.condD rfl (fun h59 => ?_) (fun h59 => ?_)
 replace H := ite_t h59 H
 refine GoC.region ?_
 refine GoO.pure (ps_move rfl rfl) ?_
 refine GoO.pure (ps_move rfl rfl) ?_
 refine GoO.pure (ps_assign rfl rfl) ?_
 refine GoO.pure (ps_assign rfl rfl) ?_
 refine GoO.nil ?_
 cases H
 exact GoK.meet ⟨rfl, rfl⟩ (EnvD.eq rfl (EnvD.eq rfl (EnvD.eq rfl (EnvD.eq rfl (EnvD.eq rfl (EnvD.eq rfl (EnvD.eq rfl (EnvD.eq rfl (EnvD.eq rfl (EnvD.eq rfl (EnvD.eq rfl (EnvD.nil)))))))))))) (TkD.cons _ _ _ _ _ Rem.p0 (HLe.st ⟨⟨⟨trivial, DLe.refl _⟩, DLe.refl _⟩, DLe.refl _⟩) (TkD.cons _ _ _ _ _ Rem.p0 (HLe.refl _) (TkD.cons _ _ _ _ _ Rem.p0 (HLe.refl _) (TkD.cons _ _ _ _ _ Rem.p0 (HLe.refl _) (TkD.cons _ _ _ _ _ Rem.p0 (HLe.refl _) (TkD.cons _ _ _ _ _ Rem.p0 (HLe.refl _) (TkD.cons _ _ _ _ _ Rem.p0 (HLe.refl _) (TkD.cons _ _ _ _ _ Rem.p0 (HLe.st ⟨⟨trivial, DLe.refl _⟩, DLe.refl _⟩) (TkD.nil _)))))))))
 replace H := ite_f h59 H
 refine GoC.skip ?_
 cases H
 exact GoK.meet ⟨rfl, rfl⟩ (EnvD.eq rfl (EnvD.eq rfl (EnvD.eq rfl (EnvD.eq rfl (EnvD.eq rfl (EnvD.eq rfl (EnvD.eq rfl (EnvD.eq rfl (EnvD.eq rfl (EnvD.eq rfl (EnvD.eq rfl (EnvD.nil)))))))))))) (TkD.cons _ _ _ _ _ Rem.p0 (HLe.st ⟨⟨⟨trivial, DLe.refl _⟩, DLe.refl _⟩, DLe.refl _⟩) (TkD.cons _ _ _ _ _ Rem.p0 (HLe.refl _) (TkD.cons _ _ _ _ _ Rem.p0 (HLe.refl _) (TkD.cons _ _ _ _ _ Rem.p0 (HLe.refl _) (TkD.cons _ _ _ _ _ Rem.p0 (HLe.refl _) (TkD.cons _ _ _ _ _ Rem.p0 (HLe.refl _) (TkD.cons _ _ _ _ _ Rem.p0 (HLe.refl _) (TkD.cons _ _ _ _ _ Rem.p0 (HLe.st ⟨⟨trivial, DLe.refl _⟩, DLe.refl _⟩) (TkD.nil _)))))))))
 rintro v h ⟨rfl, rfl⟩
 have H := HK56; clear HK56
 refine GoC.seq ?_
 refine GoC.drawA (.q 0 (.q 1 (.q 2 (.q 3 (.q 5 (.q 6 (.q 7 (.q 8 (.one 4 (.one 9 (.q 10 (.q 11 (.done))))))))))))) follows (by kernel_rfl) ?_
 refine GoP.qN rfl (ps_move rfl rfl) ?_
 refine GoP.qN rfl (ps_move rfl rfl) ?_
 have c60 := ck_l H; replace H := ck_r H
 refine GoP.qN rfl (ps_indexAddr0 rfl rfl c60 rfl) ?_
 refine GoP.qN rfl (ps_load rfl At.p2 At.p2 (idx_lt c60) rfl rfl) ?_
 refine GoP.qN rfl (ps_move rfl rfl) ?_
 refine GoP.qN rfl (ps_move rfl rfl) ?_
 have c61 := ck_l H; replace H := ck_r H
 refine GoP.qN rfl (ps_indexAddr0 rfl rfl c61 rfl) ?_
 refine GoP.qN rfl (ps_load rfl At.p2 At.p2 (idx_lt c61) rfl rfl) ?_
 have hb := bind_l H; clear H
 obtain ⟨r62, e63, H⟩ := hb
 refine GoP.oneC rfl trivial (ef_call rfl (Take.nil _) (Take.cons _ _ _ _ _ Rem.p3 (Take.nil _)) (slices_Index_int_spec (g44.getD x54.toNat []) 0 e63) (LendL.cons (Lend.gridRow (α := Int) (xs := g44) (i := x54.toNat) At.p0 (idx_lt c60) (by first | rfl | omega | (simp only [subl_length, cpl_length, List.length_set, List.length_append, List.length_cons, List.length_nil, List.length_replicate, row_len]; omega) | (simp only [subl_length, cpl_length, List.length_set, List.length_append, List.length_cons, List.length_nil, List.length_replicate, row_len]; done) | simp) rfl) (LendL.cons (Lend.refl _ _) (LendL.nil))) rfl (slices_Index_int_I (r62))) (Take.cons _ _ _ _ _ Rem.p0 (Take.cons _ _ _ _ _ Rem.p0 (Take.cons _ _ _ _ _ Rem.p0 (Take.cons _ _ _ _ _ Rem.p0 (Take.cons _ _ _ _ _ Rem.p0 (Take.cons _ _ _ _ _ Rem.p0 (Take.cons _ _ _ _ _ Rem.p0 (Take.cons _ _ _ _ _ Rem.p0 (Take.nil _))))))))) (fun rr HH hp => ?_)
 obtain ⟨rfl, rfl⟩ := hp
 have hb := bind_l H; clear H
 obtain ⟨r64, e65, H⟩ := hb
 refine GoP.oneC rfl trivial (ef_call rfl (Take.nil _) (Take.cons _ _ _ _ _ Rem.p3 (Take.nil _)) (slices_Index_int_spec (g44.getD x55.toNat []) 0 e65) (LendL.cons (Lend.gridRow (α := Int) (xs := g44) (i := x55.toNat) At.p0 (idx_lt c61) (by first | rfl | omega | (simp only [subl_length, cpl_length, List.length_set, List.length_append, List.length_cons, List.length_nil, List.length_replicate, row_len]; omega) | (simp only [subl_length, cpl_length, List.length_set, List.length_append, List.length_cons, List.length_nil, List.length_replicate, row_len]; done) | simp) rfl) (LendL.cons (Lend.refl _ _) (LendL.nil))) rfl (slices_Index_int_I (r64))) (Take.cons _ _ _ _ _ Rem.p0 (Take.cons _ _ _ _ _ Rem.p0 (Take.cons _ _ _ _ _ Rem.p0 (Take.cons _ _ _ _ _ Rem.p0 (Take.cons _ _ _ _ _ Rem.p0 (Take.cons _ _ _ _ _ Rem.p0 (Take.cons _ _ _ _ _ Rem.p0 (Take.cons _ _ _ _ _ Rem.p0 (Take.nil _))))))))) (fun rr HH hp => ?_)
 obtain ⟨rfl, rfl⟩ := hp
 refine GoP.qN rfl (ps_assign rfl rfl) ?_
 refine GoP.qN rfl (ps_assign rfl rfl) ?_
 refine GoP.done ?_
 refine GoK.code ?_
 have hb := bind_l H; clear H
 obtain ⟨⟨l66, g67⟩, H, HK69⟩ := hb
 refine GoC.seqJ [(1, .ptr β1 2 0 0), (5, .own β3 1 0 r2.length), (10, .v (.int .i64 x18)), (15, .v (.int .i64 ((k51 : Nat) : Int))), (17, .v (.int .i64 x54)), (18, .v (.int .i64 x55)), (19, .v (.int .i64 r62)), (71, slD g.as), (72, .v (.int .i64 ((g.as.length : Nat) : Int))), (73, .v (.int .i64 ((k51 : Nat) : Int)))] [.one β53 39 3 (st1 (nth [.v (.int .i64 ((g.as.getD k51 El.d).f)), .v (.int .i64 ((g.as.getD k51 El.d).t)), .v (.int .i64 ((g.as.getD k51 El.d).c))])), .one β8 3 1 (row r7), .one β10 3 1 (row r9), .one β3 3 1 (row r2), .one β1 33 2 (st1 (nth [.v (.int .i64 g.n), slD g.as]))] (fun v h => ∃ (Γ68 : Nat → BK), v = [(12, .own β26 1 0 l66.length), (13, .own β28 1 0 g67.length)] ∧ h = [.one β26 3 1 (row l66), .one β28 26 1 (gridC Γ68 g67), gridH (α := Int) 3 Γ68 g67]) ?_ ?_
 refine GoC.seq ?_
 refine GoC.region ?_
 refine GoO.pure (ps_move rfl rfl) ?_
 refine GoO.pure (ps_move rfl rfl) ?_
 refine GoO.pure (ps_indexAddr0 rfl rfl c61 rfl) ?_
 refine GoO.pure (ps_load rfl At.p2 At.p2 (idx_lt c61) rfl rfl) ?_
 refine GoO.pure (ps_move rfl rfl) ?_
 have c71 := ck_l H; replace H := ck_r H
 refine GoO.pure (ps_indexAddr0 rfl rfl c71 rfl) ?_
 refine GoO.pure (ps_loadG (α := Int) (xs := g44) rfl rfl At.p3 At.p3 (idx_lt c61) (idx_lt c71) rfl rfl) ?_
 refine GoO.pure (ps_gtr rfl rfl rfl) ?_
 refine GoO.nil ?_
 refine GoK.code ?_
 refine GoC.condD rfl (fun h72 => ?_) (fun h72 => ?_)
 replace H := ite_t h72 H
 refine GoC.region ?_
 refine GoO.pure (ps_loadAg rfl At.p7 At.p7 Nat.zero_lt_one rfl rfl) ?_
 refine GoO.pure (ps_move rfl rfl) ?_
 refine GoO.pure (ps_move rfl rfl) ?_
 refine GoO.pure (ps_move rfl rfl) ?_
 refine GoO.pure (ps_move rfl rfl) ?_
 refine GoO.pure (ps_move rfl rfl) ?_
 have hb := bind_l H; clear H
 obtain ⟨⟨l73, l74⟩, e75, H⟩ := hb
 have c76 := ck_l H; replace H := ck_r H
 have c77 := ck_l H; replace H := ck_r H
 refine GoO.effC (ef_call rfl (Take.cons _ _ _ _ _ Rem.p2 (Take.cons _ _ _ _ _ Rem.p2 (Take.cons _ _ _ _ _ Rem.p1 (Take.nil _)))) (Take.nil _) (colour_swap_spec g g44 l43 x55 r62 r64 β28 Γ45 β26 e75) (LendL.cons (Lend.agA ⟨⟨trivial, Lend.refl _ _⟩, Lend.refl _ _⟩) (LendL.cons (Lend.refl _ _) (LendL.cons (Lend.refl _ _) (LendL.cons (Lend.refl _ _) (LendL.cons (Lend.refl _ _) (LendL.cons (Lend.refl _ _) (LendL.nil))))))) rfl (colour_swap_I (l73, l74) β28 Γ45 β26)) (fun rr HH hp => ?_)
 obtain ⟨Γ78, rfl, rfl⟩ := hp
 refine GoO.nil ?_
 cases H
 exact GoK.meet ⟨Γ78, rfl, rfl⟩ (EnvD.cons rfl (DLe.len (by first | rfl | omega | (simp only [row_len, gridC_len, rowO_len, c76, c77] <;> first | rfl | omega))) (EnvD.cons rfl (DLe.len (by first | rfl | omega | (simp only [row_len, gridC_len, rowO_len, c76, c77] <;> first | rfl | omega))) (EnvD.eq rfl (EnvD.eq rfl (EnvD.eq rfl (EnvD.eq rfl (EnvD.eq rfl (EnvD.eq rfl (EnvD.eq rfl (EnvD.eq rfl (EnvD.eq rfl (EnvD.eq rfl (EnvD.nil))))))))))))) (TkD.cons _ _ _ _ _ Rem.p0 (HLe.refl _) (TkD.cons _ _ _ _ _ Rem.p0 (HLe.refl _) (TkD.cons _ _ _ _ _ Rem.p0 (HLe.refl _) (TkD.cons _ _ _ _ _ Rem.p0 (HLe.st ⟨⟨⟨trivial, DLe.refl _⟩, DLe.refl _⟩, DLe.refl _⟩) (TkD.cons _ _ _ _ _ Rem.p0 (HLe.refl _) (TkD.cons _ _ _ _ _ Rem.p0 (HLe.refl _) (TkD.cons _ _ _ _ _ Rem.p0 (HLe.refl _) (TkD.cons _ _ _ _ _ Rem.p0 (HLe.st ⟨⟨trivial, DLe.refl _⟩, DLe.refl _⟩) (TkD.nil _)))))))))
 replace H := ite_f h72 H
 refine GoC.skip ?_
 cases H
 exact GoK.meet ⟨Γ45, rfl, rfl⟩ (EnvD.cons rfl (DLe.len (by first | rfl | omega | (simp only [row_len, gridC_len, rowO_len] <;> first | rfl | omega))) (EnvD.cons rfl (DLe.len (by first | rfl | omega | (simp only [row_len, gridC_len, rowO_len] <;> first | rfl | omega))) (EnvD.eq rfl (EnvD.eq rfl (EnvD.eq rfl (EnvD.eq rfl (EnvD.eq rfl (EnvD.eq rfl (EnvD.eq rfl (EnvD.eq rfl (EnvD.eq rfl (EnvD.eq rfl (EnvD.nil))))))))))))) (TkD.cons _ _ _ _ _ Rem.p1 (HLe.refl _) (TkD.cons _ _ _ _ _ Rem.p1 (HLe.refl _) (TkD.cons _ _ _ _ _ Rem.p1 (HLe.refl _) (TkD.cons _ _ _ _ _ Rem.p0 (HLe.st ⟨⟨⟨trivial, DLe.refl _⟩, DLe.refl _⟩, DLe.refl _⟩) (TkD.cons _ _ _ _ _ Rem.p0 (HLe.refl _) (TkD.cons _ _ _ _ _ Rem.p0 (HLe.refl _) (TkD.cons _ _ _ _ _ Rem.p0 (HLe.refl _) (TkD.cons _ _ _ _ _ Rem.p0 (HLe.st ⟨⟨trivial, DLe.refl _⟩, DLe.refl _⟩) (TkD.nil _)))))))))
 rintro v h ⟨Γ68, rfl, rfl⟩
 have H := HK69; clear HK69
 refine GoC.seq ?_
 refine GoC.region ?_
 refine GoO.pure (ps_move rfl rfl) ?_
 refine GoO.pure (ps_move rfl rfl) ?_
 refine GoO.pure (ps_move rfl rfl) ?_
 have c79 := ck_l H; replace H := ck_r H
 refine GoO.pure (ps_indexAddr0N rfl rfl c79 rfl) ?_
 refine GoO.eff1 (ef_store rfl rfl rfl At.p0 (upd_row1 (v := r62) rfl) c79 rfl) ?_
 refine GoO.nil ?_
 refine GoK.code ?_
 refine GoC.drawQ (.q 0 (.q 1 (.q 2 (.q 3 (.q 4 (.q 5 (.q 6 (.q 7 (.q 8 (.q 9 (.q 10 (.q 11 (.q 12 (.q 13 (.q 14 (.one 15 (.q 16 (.one 17 (.done))))))))))))))))))) 15 follows (by kernel_rfl) ?_
 refine GoQ.qP rfl rfl (ps_move rfl rfl) ?_
 refine GoQ.qP rfl rfl (ps_move rfl rfl) ?_
 have c80 := ck_l H; replace H := ck_r H
 refine GoQ.qP rfl rfl (ps_indexAddr0 rfl rfl c80 rfl) ?_
 refine GoQ.qN rfl (by kernel_rfl) (ps_load rfl At.p1 At.p1 (idx_lt c80) rfl rfl) ?_
 refine GoQ.qP rfl rfl (ps_move rfl rfl) ?_
 refine GoQ.qP rfl rfl (ps_move rfl rfl) ?_
 refine GoQ.qP rfl rfl (ps_move rfl rfl) ?_
 have c81 := ck_l H; replace H := ck_r H
 refine GoQ.qP rfl rfl (ps_indexAddr0 rfl rfl c81 rfl) ?_
 refine GoQ.qN rfl (by kernel_rfl) (ps_load rfl At.p1 At.p1 (idx_lt c81) rfl rfl) ?_
 refine GoQ.qP rfl rfl (ps_move rfl rfl) ?_
 refine GoQ.qP rfl rfl (ps_move rfl rfl) ?_
 refine GoQ.qP rfl rfl (ps_add rfl rfl rfl hIk51) ?_
 refine GoQ.qP rfl rfl (ps_move rfl rfl) ?_
 refine GoQ.qP rfl rfl (ps_add rfl rfl rfl hIk51) ?_
 have c82 := ck_l H; replace H := ck_r H
 refine GoQ.qP rfl rfl (ps_indexAddr0 rfl rfl c82 rfl) ?_
 refine GoQ.last1 rfl trivial (ef_storeG (α := Int) (xs := g67) (v := (((k51 + 1) : Nat) : Int)) rfl rfl rfl rfl At.p2 (upd_row1 (v := (((k51 + 1) : Nat) : Int)) rfl) (idx_lt c80) (idx_lt c82) rfl) (Take.cons _ _ _ _ _ Rem.p2 (Take.nil _)) ?_
 refine GoP.leD (Le.reH At.p1 (HLe.gridW (α := Int) (i := x54.toNat) (e := r62.toNat) (v := (((k51 + 1) : Nat) : Int)))) ?_
 have c83 := ck_l H; replace H := ck_r H
 refine GoP.qN rfl (ps_indexAddr0 rfl rfl c83 rfl) ?_
 refine GoP.one1 rfl trivial (ef_storeG (α := Int) (xs := (g67.set x54.toNat ((g67.getD x54.toNat []).set r62.toNat (((k51 + 1) : Nat) : Int)))) (v := (((k51 + 1) : Nat) : Int)) rfl rfl rfl rfl At.p2 (upd_row1 (v := (((k51 + 1) : Nat) : Int)) rfl) (lt_len (idx_lt c81) (by first | rfl | omega | (simp only [row_len, gridC_len, rowO_len, List.length_set, List.length_cons, List.length_nil, List.length_nil] <;> first | rfl | omega))) (by have hgl := (idx_lt c83); simpa only [grid_set_len, eldI] using hgl) rfl) (Take.cons _ _ _ _ _ Rem.p2 (Take.nil _)) ?_
 refine GoP.leD (Le.reH At.p1 (HLe.gridW (α := Int) (i := x55.toNat) (e := r62.toNat) (v := (((k51 + 1) : Nat) : Int)))) ?_
 refine GoP.done ?_
 refine GoK.blk ?_
 refine GoK.code ?_
 refine GoC.region ?_
 refine GoO.pure (ps_add rfl rfl rfl hIk51) ?_
 refine GoO.pure (ps_move rfl rfl) ?_
 refine GoO.nil ?_
 obtain rfl := Option.some.inj H
 exact GoK.againJ m52' (by omega) ⟨_, _, _, Γ68, ⟨by omega, hF47⟩, rfl, rfl⟩ (EnvD.eq rfl (EnvD.cons rfl (DLe.len (by first | rfl | omega | (simp only [row_len, gridC_len, rowO_len, List.length_set] <;> first | rfl | omega))) (EnvD.cons rfl (DLe.len (by first | rfl | omega | (simp only [row_len, gridC_len, rowO_len, List.length_set, List.length_cons, List.length_nil, List.length_nil] <;> first | rfl | omega))) (EnvD.eq rfl (EnvD.eq rfl (EnvD.eq rfl (EnvD.eq rfl (EnvD.eq rfl (EnvD.nil))))))))) (TkD.cons _ _ _ _ _ Rem.p0 (HLe.refl _) (TkD.cons _ _ _ _ _ Rem.p0 (HLe.refl _) (TkD.cons _ _ _ _ _ Rem.p0 (HLe.refl _) (TkD.cons _ _ _ _ _ Rem.p1 (HLe.refl _) (TkD.cons _ _ _ _ _ Rem.p1 (HLe.refl _) (TkD.cons _ _ _ _ _ Rem.p1 (HLe.refl _) (TkD.cons _ _ _ _ _ Rem.p1 (HLe.st ⟨⟨trivial, DLe.refl _⟩, DLe.refl _⟩) (TkD.nil _))))))))
 obtain rfl : m52 = 0 := by omega
 refine GoC.exit rfl ?_
 cases hF47
 exact GoK.meet ⟨Γ45, rfl, rfl⟩ (EnvD.cons rfl (DLe.len (by first | rfl | omega | (simp only [row_len, gridC_len, rowO_len] <;> first | rfl | omega))) (EnvD.eq rfl (EnvD.nil))) (TkD.cons _ _ _ _ _ Rem.p0 (HLe.refl _) (TkD.cons _ _ _ _ _ Rem.p0 (HLe.refl _) (TkD.cons _ _ _ _ _ Rem.p0 (HLe.refl _) (TkD.cons _ _ _ _ _ Rem.p0 (HLe.refl _) (TkD.cons _ _ _ _ _ Rem.p0 (HLe.refl _) (TkD.cons _ _ _ _ _ Rem.p0 (HLe.refl _) (TkD.cons _ _ _ _ _ Rem.p0 (HLe.st ⟨⟨trivial, DLe.refl _⟩, DLe.refl _⟩) (TkD.nil _))))))))
 rintro v h ⟨Γ45, rfl, rfl⟩
 have H := HK46; clear HK46
 refine GoK.code ?_
 refine GoC.seq ?_
 refine GoC.region ?_
 refine GoO.pure (ps_move rfl rfl) ?_
 refine GoO.pure (ps_move rfl rfl) ?_
 refine GoO.pure (ps_assign rfl rfl) ?_
 refine GoO.pure (ps_assign rfl rfl) ?_
 refine GoO.pure (ps_assign rfl rfl) ?_
 refine GoO.nil ?_
 refine GoK.code ?_
 obtain rfl := Option.some.inj H
 exact GoC.retL (ds := [.own β26 1 0 l49.length, .v (.int .i64 x18), .v (.int .i64 0)]) Try.results21 (ResL.cons (ResD.tmp rfl) (ResL.cons (ResD.tmp rfl) (ResL.cons (ResD.tmp rfl) (ResL.nil)))) (Take.cons _ _ _ _ _ Rem.p0 (Take.nil _)) ⟨β26, rfl, rfl⟩

end Go.Proofs.Ytdpkdicciclobaa
