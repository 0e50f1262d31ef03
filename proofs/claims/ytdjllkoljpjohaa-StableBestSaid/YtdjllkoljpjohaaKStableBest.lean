/- The functions weirkeep.StableBest, told as plain functions, and that the code does as they say. -/
import Derived.Test.YtdjllkoljpjohaaTys
import Derived.Test.YtdjllkoljpjohaaDat
import Derived.Test.YtdjllkoljpjohaaGkeep
import Derived.Test.YtdjllkoljpjohaaGref
import Derived.Test.YtdjllkoljpjohaaGstable
namespace Go.Proofs.Ytdjllkoljpjohaa
open Go Go.Proofs.Ytdjllkoljpjohaa.Sx
set_option linter.unusedVariables false
set_option linter.unusedSimpArgs false
def weirkeep_StableBest_B1 (a : (List (List Int))) (b : (List (List Int))) (p : (List Int)) (r4 : (List Int)) : Nat → Unit → Option (Ct (Unit) (Bool)) := fun k24 _ =>
 ck (k24 < r4.length) <|
 ck (k24 < p.length) <|
 (weirref_Rank_F (a.getD k24 []) (r4.getD k24 (0 : Int))).bind fun r28 =>
 (weirref_Rank_F (a.getD k24 []) (p.getD k24 (0 : Int))).bind fun r30 =>
 if r30 < r28 then
  some (.ret false)
 else
  ck (k24 < b.length) <|
  (weirref_Rank_F r4 ((k24 : Nat) : Int)).bind fun r34 =>
  (weirref_Rank_F (b.getD k24 []) r34).bind fun r36 =>
  (weirref_Rank_F p ((k24 : Nat) : Int)).bind fun r38 =>
  (weirref_Rank_F (b.getD k24 []) r38).bind fun r40 =>
  if r36 < r40 then
   some (.ret false)
  else
   some (.go ())
def weirkeep_StableBest_F (a : (List (List Int))) (b : (List (List Int))) (p : (List Int)) : Option (Bool) :=
 (weirkeep_stables_F).bind fun r1 =>
 if (!r1) = true then
  some false
 else
  (stable_Best_F a b).bind fun (r4, r6) =>
  if r6 ≠ 0 then
   some (decide (((r4.length : Nat) : Int) = 0))
  else
   (stable_Pair_F a b r4).bind fun (r10, r11, r12) =>
   if r12 ≠ 5 then
    some false
   else
    (stable_Pair_F a b p).bind fun (r15, r16, r17) =>
    if r17 ≠ 5 then
     some true
    else
     (forC (weirkeep_StableBest_B1 a b p r4) a.length 0 ()).bind fun q => match q with
     | .go _ =>
      some true
     | .ret x => some x
def weirkeep_StableBest_P (out : Bool) (d : D) (H : List HL) : Prop := d = .v (.bool out) ∧ H = []
theorem weirkeep_StableBest_I (out : Bool) : IndepP (weirkeep_StableBest_P out) := IndepP.of (by rintro _ _ ⟨rfl, rfl⟩; exact ⟨inferInstance, inferInstance⟩)
set_option maxRecDepth 100000 in
set_option maxHeartbeats 4000000 in
theorem weirkeep_StableBest_spec (a : (List (List Int))) (b : (List (List Int))) (p : (List Int)) {out : Bool} (H : weirkeep_StableBest_F a b p = some out) : Does Try.prog 7 [slD a, slD b, slD p] [] (weirkeep_StableBest_P out) := by
 unfold weirkeep_StableBest_F at H
 refine Does.intro Try.func7 rfl Try.ntmps7 rfl fun w0 I0 => ?_
 refine GoC.seq ?_
 refine GoC.region ?_
 refine GoO.pure (ps_assign rfl rfl) ?_
 refine GoO.nil ?_
 refine GoK.code ?_
 refine GoC.seq ?_
 refine GoC.seq ?_
 refine GoC.region ?_
 have hb := bind_l H; clear H
 obtain ⟨r1, e2, H⟩ := hb
 refine GoO.effC (ef_call rfl (Take.nil _) (Take.nil _) (weirkeep_stables_spec e2) (LendL.nil) rfl (weirkeep_stables_I (r1))) (fun rr HH hp => ?_)
 obtain ⟨rfl, rfl⟩ := hp
 refine GoO.pure (ps_not rfl rfl) ?_
 refine GoO.nil ?_
 refine GoK.code ?_
 refine GoC.cond rfl (fun h3 => ?_) (fun h3 => ?_)
 replace H := itb_t h3 H
 refine GoC.seq ?_
 refine GoC.region ?_
 refine GoO.pure (ps_assign rfl rfl) ?_
 refine GoO.nil ?_
 refine GoK.code ?_
 obtain rfl := Option.some.inj H
 exact GoC.retL (ds := [.v (.bool false)]) Try.results7 (ResL.cons (ResD.tmp rfl) (ResL.nil)) (Take.nil _) ⟨rfl, rfl⟩
 replace H := itb_f h3 H
 refine GoC.skip ?_
 refine GoK.code ?_
 refine GoC.seq ?_
 refine GoC.region ?_
 refine GoO.pure (ps_move rfl rfl) ?_
 refine GoO.pure (ps_move rfl rfl) ?_
 have hb := bind_l H; clear H
 obtain ⟨⟨r4, r6⟩, e7, H⟩ := hb
 refine GoO.effC (ef_call rfl (Take.nil _) (Take.nil _) (stable_Best_spec a b e7) (LendL.cons (Lend.refl _ _) (LendL.cons (Lend.refl _ _) (LendL.nil))) rfl (stable_Best_I (r4, r6))) (fun rr HH hp => ?_)
 obtain ⟨β5, rfl, rfl⟩ := hp
 refine GoO.pure (ps_move rfl rfl) ?_
 refine GoO.pure (ps_extract rfl rfl rfl) ?_
 refine GoO.pure (ps_extract rfl rfl rfl) ?_
 refine GoO.pure (ps_assign rfl rfl) ?_
 refine GoO.pure (ps_assign rfl rfl) ?_
 refine GoO.nil ?_
 refine GoK.code ?_
 refine GoC.seq ?_
 refine GoC.seq ?_
 refine GoC.region ?_
 refine GoO.pure (ps_move rfl rfl) ?_
 refine GoO.pure (ps_neq rfl rfl rfl) ?_
 refine GoO.nil ?_
 refine GoK.code ?_
 refine GoC.condD rfl (fun h8 => ?_) (fun h8 => ?_)
 replace H := ite_t h8 H
 refine GoC.seq ?_
 refine GoC.region ?_
 refine GoO.pure (ps_move rfl rfl) ?_
 refine GoO.pure (ps_len rfl (by constructor) rfl) ?_
 refine GoO.lenLe (n := r4.length) (x := .tmp 26) rfl (by constructor) own_lenLe (fun ml9 => ?_)
 refine GoO.pure (ps_eql rfl rfl rfl) ?_
 refine GoO.pure (ps_assign rfl rfl) ?_
 refine GoO.nil ?_
 refine GoK.code ?_
 obtain rfl := Option.some.inj H
 exact GoC.retL (ds := [.v (.bool (decide (((r4.length : Nat) : Int) = 0)))]) Try.results7 (ResL.cons (ResD.tmp rfl) (ResL.nil)) (Take.nil _) ⟨rfl, rfl⟩
 replace H := ite_f h8 H
 refine GoC.skip ?_
 refine GoK.code ?_
 refine GoC.seq ?_
 refine GoC.seq ?_
 refine GoC.region ?_
 refine GoO.pure (ps_move rfl rfl) ?_
 refine GoO.pure (ps_move rfl rfl) ?_
 refine GoO.pure (ps_move rfl rfl) ?_
 have hb := bind_l H; clear H
 obtain ⟨⟨r10, r11, r12⟩, e13, H⟩ := hb
 refine GoO.effC (ef_call rfl (Take.nil _) (Take.cons _ _ _ _ _ Rem.p0 (Take.nil _)) (stable_Pair_spec a b r4 e13) (LendL.cons (Lend.refl _ _) (LendL.cons (Lend.refl _ _) (LendL.cons (Lend.all' At.p0 (by first | rfl | omega | (simp only [subl_length, cpl_length, List.length_set, List.length_append, List.length_cons, List.length_nil, List.length_replicate, row_len] <;> first | rfl | omega)) rfl) (LendL.nil)))) rfl (stable_Pair_I (r10, r11, r12))) (fun rr HH hp => ?_)
 obtain ⟨rfl, rfl⟩ := hp
 refine GoO.pure (ps_move rfl rfl) ?_
 refine GoO.pure (ps_extract rfl rfl rfl) ?_
 refine GoO.pure (ps_extract rfl rfl rfl) ?_
 refine GoO.pure (ps_extract rfl rfl rfl) ?_
 refine GoO.pure (ps_assign rfl rfl) ?_
 refine GoO.pure (ps_assign rfl rfl) ?_
 refine GoO.pure (ps_assign rfl rfl) ?_
 refine GoO.nil ?_
 refine GoK.code ?_
 refine GoC.seq ?_
 refine GoC.region ?_
 refine GoO.pure (ps_move rfl rfl) ?_
 refine GoO.pure (ps_neq rfl rfl rfl) ?_
 refine GoO.nil ?_
 refine GoK.code ?_
 refine GoC.condD rfl (fun h14 => ?_) (fun h14 => ?_)
 replace H := ite_t h14 H
 refine GoC.seq ?_
 refine GoC.region ?_
 refine GoO.pure (ps_assign rfl rfl) ?_
 refine GoO.nil ?_
 refine GoK.code ?_
 obtain rfl := Option.some.inj H
 exact GoC.retL (ds := [.v (.bool false)]) Try.results7 (ResL.cons (ResD.tmp rfl) (ResL.nil)) (Take.nil _) ⟨rfl, rfl⟩
 replace H := ite_f h14 H
 refine GoC.skip ?_
 refine GoK.code ?_
 refine GoC.seq ?_
 refine GoC.seq ?_
 refine GoC.region ?_
 refine GoO.pure (ps_move rfl rfl) ?_
 refine GoO.pure (ps_move rfl rfl) ?_
 refine GoO.pure (ps_move rfl rfl) ?_
 have hb := bind_l H; clear H
 obtain ⟨⟨r15, r16, r17⟩, e18, H⟩ := hb
 refine GoO.effC (ef_call rfl (Take.nil _) (Take.nil _) (stable_Pair_spec a b p e18) (LendL.cons (Lend.refl _ _) (LendL.cons (Lend.refl _ _) (LendL.cons (Lend.refl _ _) (LendL.nil)))) rfl (stable_Pair_I (r15, r16, r17))) (fun rr HH hp => ?_)
 obtain ⟨rfl, rfl⟩ := hp
 refine GoO.pure (ps_move rfl rfl) ?_
 refine GoO.pure (ps_extract rfl rfl rfl) ?_
 refine GoO.pure (ps_extract rfl rfl rfl) ?_
 refine GoO.pure (ps_extract rfl rfl rfl) ?_
 refine GoO.pure (ps_assign rfl rfl) ?_
 refine GoO.pure (ps_assign rfl rfl) ?_
 refine GoO.pure (ps_assign rfl rfl) ?_
 refine GoO.nil ?_
 refine GoK.code ?_
 refine GoC.seq ?_
 refine GoC.region ?_
 refine GoO.pure (ps_move rfl rfl) ?_
 refine GoO.pure (ps_neq rfl rfl rfl) ?_
 refine GoO.nil ?_
 refine GoK.code ?_
 refine GoC.condD rfl (fun h19 => ?_) (fun h19 => ?_)
 replace H := ite_t h19 H
 refine GoC.seq ?_
 refine GoC.region ?_
 refine GoO.pure (ps_assign rfl rfl) ?_
 refine GoO.nil ?_
 refine GoK.code ?_
 obtain rfl := Option.some.inj H
 exact GoC.retL (ds := [.v (.bool true)]) Try.results7 (ResL.cons (ResD.tmp rfl) (ResL.nil)) (Take.nil _) ⟨rfl, rfl⟩
 replace H := ite_f h19 H
 refine GoC.skip ?_
 refine GoK.code ?_
 refine GoC.seq ?_
 refine GoC.seq ?_
 refine GoC.region ?_
 refine GoO.pure (ps_move rfl rfl) ?_
 refine GoO.pure (ps_len rfl (by constructor) rfl) ?_
 refine GoO.lenLe (n := a.length) (x := .tmp 49) rfl (by constructor) sl_lenLe (fun ml20 => ?_)
 refine GoO.pure (ps_move rfl rfl) ?_
 refine GoO.nil ?_
 refine GoK.code ?_
 have hb := bind_l H; clear H
 obtain ⟨q23, hl43, HK21⟩ := hb
 refine GoC.blockJ [] [.one β5 3 1 (row r4)] (fun v h => q23 = .go () ∧ v = [] ∧ h = []) ?_ ?_
 refine GoC.loopJ [(0, _), (1, _), (2, _), (7, _), (50, _)] [.one β5 3 1 (row r4)] (fun m v h => ∃ (k24 : Nat), (k24 + m = a.length ∧ forC (weirkeep_StableBest_B1 a b p r4) m k24 () = some q23) ∧ v = [(51, .v (.int .i64 ((k24 : Nat) : Int)))] ∧ h = []) a.length ⟨_, ⟨by omega, hl43⟩, rfl, rfl⟩ (EnvD.eq rfl (EnvD.eq rfl (EnvD.eq rfl (EnvD.eq rfl (EnvD.eq rfl (EnvD.eq rfl (EnvD.nil))))))) (TkD.cons _ _ _ _ _ Rem.p0 (HLe.refl _) (TkD.nil _)) ?_
 rintro m25 v h ⟨k24, ⟨hkk24, hF22⟩, rfl, rfl⟩
 refine GoC.seq ?_
 refine GoC.region ?_
 refine GoO.pure (ps_lss rfl rfl rfl) ?_
 refine GoO.nil ?_
 refine GoK.code ?_
 refine GoC.seq ?_
 refine GoC.condD rfl (fun (hk24 : (k24 : Int) < ((a.length : Nat) : Int)) => ?_) (fun (hk24 : ¬ (k24 : Int) < ((a.length : Nat) : Int)) => ?_)
 obtain ⟨m25', rfl⟩ : ∃ x, m25 = x + 1 := ⟨m25 - 1, by omega⟩
 have hb := bind_l hF22; clear hF22
 obtain ⟨qrm25, H, hF22⟩ := hb
 have hnk24 : k24 < a.length := by omega
 have hIk24 : InI ((k24 : Int) + 1) := inI_len hk24 ml20
 refine GoC.skip ?_
 refine GoK.code ?_
 refine GoC.seq ?_
 refine GoC.block ?_
 refine GoC.seq ?_
 refine GoC.region ?_
 refine GoO.pure (ps_move rfl rfl) ?_
 refine GoO.pure (ps_assign rfl rfl) ?_
 refine GoO.nil ?_
 refine GoK.code ?_
 refine GoC.seq ?_
 refine GoC.seq ?_
 refine GoC.drawA (.q 0 (.q 1 (.q 2 (.q 3 (.q 4 (.q 5 (.q 6 (.q 7 (.q 9 (.q 10 (.q 11 (.q 12 (.q 13 (.q 14 (.q 15 (.q 16 (.one 8 (.one 17 (.q 18 (.done)))))))))))))))))))) follows (by kernel_rfl) ?_
 refine GoP.qN rfl (ps_move rfl rfl) ?_
 refine GoP.qN rfl (ps_move rfl rfl) ?_
 refine GoP.qN rfl (ps_indexAddrRN rfl rfl hnk24 rfl) ?_
 refine GoP.qN rfl (ps_loadR rfl hnk24 rfl rfl) ?_
 refine GoP.qN rfl (ps_move rfl rfl) ?_
 refine GoP.qN rfl (ps_move rfl rfl) ?_
 have c26 := ck_l H; replace H := ck_r H
 refine GoP.qN rfl (ps_indexAddr0N rfl rfl c26 rfl) ?_
 refine GoP.qN rfl (ps_load rfl At.p0 At.p0 c26 rfl rfl) ?_
 refine GoP.qN rfl (ps_move rfl rfl) ?_
 refine GoP.qN rfl (ps_move rfl rfl) ?_
 refine GoP.qN rfl (ps_indexAddrRN rfl rfl hnk24 rfl) ?_
 refine GoP.qN rfl (ps_loadR rfl hnk24 rfl rfl) ?_
 refine GoP.qN rfl (ps_move rfl rfl) ?_
 refine GoP.qN rfl (ps_move rfl rfl) ?_
 have c27 := ck_l H; replace H := ck_r H
 refine GoP.qN rfl (ps_indexAddrRN rfl rfl c27 rfl) ?_
 refine GoP.qN rfl (ps_loadR rfl c27 rfl rfl) ?_
 have hb := bind_l H; clear H
 obtain ⟨r28, e29, H⟩ := hb
 refine GoP.oneC rfl trivial (ef_call rfl (Take.nil _) (Take.nil _) (weirref_Rank_spec (a.getD k24 []) (r4.getD k24 (0 : Int)) e29) (LendL.cons (Lend.refl _ _) (LendL.cons (Lend.refl _ _) (LendL.nil))) rfl (weirref_Rank_I (r28))) (Take.cons _ _ _ _ _ Rem.p0 (Take.nil _)) (fun rr HH hp => ?_)
 obtain ⟨rfl, rfl⟩ := hp
 have hb := bind_l H; clear H
 obtain ⟨r30, e31, H⟩ := hb
 refine GoP.oneC rfl trivial (ef_call rfl (Take.nil _) (Take.nil _) (weirref_Rank_spec (a.getD k24 []) (p.getD k24 (0 : Int)) e31) (LendL.cons (Lend.refl _ _) (LendL.cons (Lend.refl _ _) (LendL.nil))) rfl (weirref_Rank_I (r30))) (Take.cons _ _ _ _ _ Rem.p0 (Take.nil _)) (fun rr HH hp => ?_)
 obtain ⟨rfl, rfl⟩ := hp
 refine GoP.qN rfl (ps_gtr rfl rfl rfl) ?_
 refine GoP.done ?_
 refine GoK.code ?_
 refine GoC.condD rfl (fun h32 => ?_) (fun h32 => ?_)
 replace H := ite_t h32 H
 refine GoC.seq ?_
 refine GoC.region ?_
 refine GoO.pure (ps_assign rfl rfl) ?_
 refine GoO.nil ?_
 refine GoK.code ?_
 obtain rfl := Option.some.inj H
 obtain rfl := Option.some.inj hF22
 obtain rfl := Option.some.inj HK21
 exact GoC.retL (ds := [.v (.bool false)]) Try.results7 (ResL.cons (ResD.tmp rfl) (ResL.nil)) (Take.nil _) ⟨rfl, rfl⟩
 replace H := ite_f h32 H
 refine GoC.skip ?_
 refine GoK.code ?_
 refine GoC.seq ?_
 refine GoC.drawA (.q 0 (.q 1 (.q 2 (.q 3 (.q 4 (.q 5 (.q 8 (.q 9 (.q 10 (.q 11 (.q 12 (.q 13 (.one 6 (.one 7 (.one 14 (.one 15 (.q 16 (.done)))))))))))))))))) follows (by kernel_rfl) ?_
 refine GoP.qN rfl (ps_move rfl rfl) ?_
 refine GoP.qN rfl (ps_move rfl rfl) ?_
 have c33 := ck_l H; replace H := ck_r H
 refine GoP.qN rfl (ps_indexAddrRN rfl rfl c33 rfl) ?_
 refine GoP.qN rfl (ps_loadR rfl c33 rfl rfl) ?_
 refine GoP.qN rfl (ps_move rfl rfl) ?_
 refine GoP.qN rfl (ps_move rfl rfl) ?_
 refine GoP.qN rfl (ps_move rfl rfl) ?_
 refine GoP.qN rfl (ps_move rfl rfl) ?_
 refine GoP.qN rfl (ps_indexAddrRN rfl rfl c33 rfl) ?_
 refine GoP.qN rfl (ps_loadR rfl c33 rfl rfl) ?_
 refine GoP.qN rfl (ps_move rfl rfl) ?_
 refine GoP.qN rfl (ps_move rfl rfl) ?_
 have hb := bind_l H; clear H
 obtain ⟨r34, e35, H⟩ := hb
 refine GoP.oneC rfl trivial (ef_call rfl (Take.nil _) (Take.cons _ _ _ _ _ Rem.p0 (Take.nil _)) (weirref_Rank_spec r4 ((k24 : Nat) : Int) e35) (LendL.cons (Lend.all' At.p0 (by first | rfl | omega | (simp only [subl_length, cpl_length, List.length_set, List.length_append, List.length_cons, List.length_nil, List.length_replicate, row_len] <;> first | rfl | omega)) rfl) (LendL.cons (Lend.refl _ _) (LendL.nil))) rfl (weirref_Rank_I (r34))) (Take.cons _ _ _ _ _ Rem.p0 (Take.nil _)) (fun rr HH hp => ?_)
 obtain ⟨rfl, rfl⟩ := hp
 have hb := bind_l H; clear H
 obtain ⟨r36, e37, H⟩ := hb
 refine GoP.oneC rfl trivial (ef_call rfl (Take.nil _) (Take.nil _) (weirref_Rank_spec (b.getD k24 []) r34 e37) (LendL.cons (Lend.refl _ _) (LendL.cons (Lend.refl _ _) (LendL.nil))) rfl (weirref_Rank_I (r36))) (Take.cons _ _ _ _ _ Rem.p0 (Take.nil _)) (fun rr HH hp => ?_)
 obtain ⟨rfl, rfl⟩ := hp
 have hb := bind_l H; clear H
 obtain ⟨r38, e39, H⟩ := hb
 refine GoP.oneC rfl trivial (ef_call rfl (Take.nil _) (Take.nil _) (weirref_Rank_spec p ((k24 : Nat) : Int) e39) (LendL.cons (Lend.refl _ _) (LendL.cons (Lend.refl _ _) (LendL.nil))) rfl (weirref_Rank_I (r38))) (Take.cons _ _ _ _ _ Rem.p0 (Take.nil _)) (fun rr HH hp => ?_)
 obtain ⟨rfl, rfl⟩ := hp
 have hb := bind_l H; clear H
 obtain ⟨r40, e41, H⟩ := hb
 refine GoP.oneC rfl trivial (ef_call rfl (Take.nil _) (Take.nil _) (weirref_Rank_spec (b.getD k24 []) r38 e41) (LendL.cons (Lend.refl _ _) (LendL.cons (Lend.refl _ _) (LendL.nil))) rfl (weirref_Rank_I (r40))) (Take.cons _ _ _ _ _ Rem.p0 (Take.nil _)) (fun rr HH hp => ?_)
 obtain ⟨rfl, rfl⟩ := hp
 refine GoP.qN rfl (ps_lss rfl rfl rfl) ?_
 refine GoP.done ?_
 refine GoK.code ?_
 refine GoC.condD rfl (fun h42 => ?_) (fun h42 => ?_)
 replace H := ite_t h42 H
 refine GoC.seq ?_
 refine GoC.region ?_
 refine GoO.pure (ps_assign rfl rfl) ?_
 refine GoO.nil ?_
 refine GoK.code ?_
 obtain rfl := Option.some.inj H
 obtain rfl := Option.some.inj hF22
 obtain rfl := Option.some.inj HK21
 exact GoC.retL (ds := [.v (.bool false)]) Try.results7 (ResL.cons (ResD.tmp rfl) (ResL.nil)) (Take.nil _) ⟨rfl, rfl⟩
 replace H := ite_f h42 H
 refine GoC.skip ?_
 refine GoK.blk ?_
 refine GoK.code ?_
 refine GoC.region ?_
 refine GoO.pure (ps_add rfl rfl rfl hIk24) ?_
 refine GoO.pure (ps_move rfl rfl) ?_
 refine GoO.nil ?_
 obtain rfl := Option.some.inj H
 exact GoK.againJ m25' (by omega) ⟨_, ⟨by omega, hF22⟩, rfl, rfl⟩ (EnvD.eq rfl (EnvD.eq rfl (EnvD.eq rfl (EnvD.eq rfl (EnvD.eq rfl (EnvD.eq rfl (EnvD.nil))))))) (TkD.cons _ _ _ _ _ Rem.p0 (HLe.refl _) (TkD.nil _))
 obtain rfl : m25 = 0 := by omega
 refine GoC.exit rfl ?_
 cases hF22
 exact GoK.meet ⟨rfl, rfl, rfl⟩ (EnvD.nil) (TkD.cons _ _ _ _ _ Rem.p0 (HLe.refl _) (TkD.nil _))
 rintro v h ⟨rfl, rfl, rfl⟩
 have H := HK21; clear HK21
 refine GoK.code ?_
 refine GoC.seq ?_
 refine GoC.region ?_
 refine GoO.pure (ps_assign rfl rfl) ?_
 refine GoO.nil ?_
 refine GoK.code ?_
 obtain rfl := Option.some.inj H
 exact GoC.retL (ds := [.v (.bool true)]) Try.results7 (ResL.cons (ResD.tmp rfl) (ResL.nil)) (Take.nil _) ⟨rfl, rfl⟩

end Go.Proofs.Ytdjllkoljpjohaa
