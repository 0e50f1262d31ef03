/- The functions weirkeep.MatchFlow, told as plain functions, and that the code does as they say. -/
import Derived.Test.YthgjamhcnaamdaaTys
import Derived.Test.YthgjamhcnaamdaaDat
import Derived.Test.YthgjamhcnaamdaaGkeep
import Derived.Test.YthgjamhcnaamdaaGmatch
import Derived.Test.YthgjamhcnaamdaaGmost
namespace Go.Proofs.Ythgjamhcnaamdaa
open Go Go.Proofs.Ythgjamhcnaamdaa.Sx
set_option linter.unusedVariables false
set_option linter.unusedSimpArgs false
def weirkeep_MatchFlow_B1 (m : Int) (n : Int) : Nat → (List Arc) → Option ((List Arc)) := fun k24 l19 =>
 ck (l19.length + 1 ≤ 5864062014805) <|
 some (l19 ++ ([(⟨(m + n), ((k24 : Nat) : Int), 1⟩ : Arc)] : List Arc))
def weirkeep_MatchFlow_B2 (m : Int) (n : Int) : Nat → (List Arc) → Option ((List Arc)) := fun k37 l32 =>
 ck (InI (m + ((k37 : Nat) : Int))) <|
 ck (l32.length + 1 ≤ 5864062014805) <|
 some (l32 ++ ([(⟨(m + ((k37 : Nat) : Int)), ((m + n) + 1), 1⟩ : Arc)] : List Arc))
def weirkeep_MatchFlow_B3 (m : Int) (l : (List Arc)) : Nat → (List Arc) → Option ((List Arc)) := fun k50 l45 =>
 ck (InI (m + ((l.getD k50 El.d).t))) <|
 ck (l45.length + 1 ≤ 5864062014805) <|
 some (l45 ++ ([(⟨(l.getD k50 El.d).f, (m + ((l.getD k50 El.d).t)), 1⟩ : Arc)] : List Arc))
def weirkeep_MatchFlow_F (m : Int) (n : Int) (l : (List Arc)) : Option (Bool) :=
 (weirkeep_mates_F).bind fun r1 =>
 if (!r1) = true then
  some false
 else
  (match_Most_F m n l).bind fun (r4, r6) =>
  if r6 ≠ 0 then
   some true
  else
   ck (InI (m + n)) <|
   if 10 < (m + n) then
    some true
   else
    ck (InI ((m + n) + ((l.length : Nat) : Int))) <|
    if 60 < ((m + n) + ((l.length : Nat) : Int)) then
     some true
    else
     ck (InI ((m + n) + 2)) <|
     ck (InI ((m + n) + 1)) <|
     ck (InI m) <|
     (forN (weirkeep_MatchFlow_B1 m n) m.toNat 0 []).bind fun l23 =>
     ck (InI n) <|
     (forN (weirkeep_MatchFlow_B2 m n) n.toNat 0 l23).bind fun l36 =>
     (forN (weirkeep_MatchFlow_B3 m l) l.length 0 l36).bind fun l49 =>
     (most_Of_F (⟨((m + n) + 2), (m + n), ((m + n) + 1), l49⟩ : Net)).bind fun (r58, r60, r61) =>
     if r61 = 0 then
      some (decide (r60 = ((r4.length : Nat) : Int)))
     else
      some false
def weirkeep_MatchFlow_P (out : Bool) (d : D) (H : List HL) : Prop := d = .v (.bool out) ∧ H = []
theorem weirkeep_MatchFlow_I (out : Bool) : IndepP (weirkeep_MatchFlow_P out) := IndepP.of (by rintro _ _ ⟨rfl, rfl⟩; exact ⟨inferInstance, inferInstance⟩)
set_option maxRecDepth 100000 in
set_option maxHeartbeats 4000000 in
theorem weirkeep_MatchFlow_spec (m : Int) (n : Int) (l : (List Arc)) {out : Bool} (H : weirkeep_MatchFlow_F m n l = some out) : Does Try.prog 8 [.v (.int .i64 m), .v (.int .i64 n), slD l] [] (weirkeep_MatchFlow_P out) := by
 unfold weirkeep_MatchFlow_F at H
 refine Does.intro Try.func8 rfl Try.ntmps8 rfl fun w0 I0 => ?_
 refine GoC.seq ?_
 refine GoC.region ?_
 refine GoO.pure (ps_assign rfl rfl) ?_
 refine GoO.nil ?_
 refine GoK.code ?_
 refine GoC.seq ?_
 refine GoC.seq ?_
 refine GoC.region ?_
 have hb := bind_l H; clear H
 obtain ⟨r1, e2, H⟩ := hb
 refine GoO.effC (ef_call rfl (Take.nil _) (Take.nil _) (weirkeep_mates_spec e2) (LendL.nil) rfl (weirkeep_mates_I (r1))) (fun rr HH hp => ?_)
 obtain ⟨rfl, rfl⟩ := hp
 refine GoO.pure (ps_not rfl rfl) ?_
 refine GoO.nil ?_
 refine GoK.code ?_
 refine GoC.cond rfl (fun h3 => ?_) (fun h3 => ?_)
 replace H := itb_t h3 H
 refine GoC.seq ?_
 refine GoC.region ?_
 refine GoO.pure (ps_assign rfl rfl) ?_
 refine GoO.nil ?_
 refine GoK.code ?_
 obtain rfl := Option.some.inj H
 exact GoC.retL (ds := [.v (.bool false)]) Try.results8 (ResL.cons (ResD.tmp rfl) (ResL.nil)) (Take.nil _) ⟨rfl, rfl⟩
 replace H := itb_f h3 H
 refine GoC.skip ?_
 refine GoK.code ?_
 refine GoC.seq ?_
 refine GoC.region ?_
 refine GoO.pure (ps_move rfl rfl) ?_
 refine GoO.pure (ps_move rfl rfl) ?_
 refine GoO.pure (ps_move rfl rfl) ?_
 have hb := bind_l H; clear H
 obtain ⟨⟨r4, r6⟩, e7, H⟩ := hb
 refine GoO.effC (ef_call rfl (Take.nil _) (Take.nil _) (match_Most_spec m n l e7) (LendL.cons (Lend.refl _ _) (LendL.cons (Lend.refl _ _) (LendL.cons (Lend.refl _ _) (LendL.nil)))) rfl (match_Most_I (r4, r6))) (fun rr HH hp => ?_)
 obtain ⟨β5, rfl, rfl⟩ := hp
 refine GoO.pure (ps_move rfl rfl) ?_
 refine GoO.pure (ps_extract rfl rfl rfl) ?_
 refine GoO.pure (ps_extract rfl rfl rfl) ?_
 refine GoO.pure (ps_assign rfl rfl) ?_
 refine GoO.pure (ps_assign rfl rfl) ?_
 refine GoO.nil ?_
 refine GoK.code ?_
 refine GoC.seq ?_
 refine GoC.seq ?_
 refine GoC.region ?_
 refine GoO.pure (ps_move rfl rfl) ?_
 refine GoO.pure (ps_neq rfl rfl rfl) ?_
 refine GoO.pure (ps_move rfl rfl) ?_
 refine GoO.guardE rfl rfl rfl rfl (fun h8 => ?_) (fun h8 => ?_)
 replace H := ite_f h8 H
 refine GoO.pure (ps_move rfl rfl) ?_
 refine GoO.guardT rfl rfl rfl ?_
 refine GoO.pure (ps_move rfl rfl) ?_
 refine GoO.guardT rfl rfl rfl ?_
 have c9 := ck_l H; replace H := ck_r H
 refine GoO.pure (ps_add rfl rfl rfl c9) ?_
 refine GoO.guardT rfl rfl rfl ?_
 refine GoO.pure (ps_gtr rfl rfl rfl) ?_
 refine GoO.pure (ps_pickF rfl rfl rfl) ?_
 refine GoO.pure (ps_move rfl rfl) ?_
 refine GoO.guardE rfl rfl rfl rfl (fun h10 => ?_) (fun h10 => ?_)
 replace H := ite_f h10 H
 refine GoO.pure (ps_move rfl rfl) ?_
 refine GoO.guardT rfl rfl rfl ?_
 refine GoO.pure (ps_move rfl rfl) ?_
 refine GoO.guardT rfl rfl rfl ?_
 refine GoO.pure (ps_add rfl rfl rfl c9) ?_
 refine GoO.guardT rfl rfl rfl ?_
 refine GoO.pure (ps_move rfl rfl) ?_
 refine GoO.guardT rfl rfl rfl ?_
 refine GoO.pure (ps_len rfl (by constructor) rfl) ?_
 refine GoO.lenLe (n := l.length) (x := .tmp 38) rfl (by constructor) sl_lenLe (fun ml11 => ?_)
 refine GoO.guardT rfl rfl rfl ?_
 have c12 := ck_l H; replace H := ck_r H
 refine GoO.pure (ps_add rfl rfl rfl c12) ?_
 refine GoO.guardT rfl rfl rfl ?_
 refine GoO.pure (ps_gtr rfl rfl rfl) ?_
 refine GoO.pure (ps_pickF rfl rfl rfl) ?_
 refine GoO.nil ?_
 refine GoK.code ?_
 refine GoC.condD rfl (fun h13 => ?_) (fun h13 => ?_)
 replace H := ite_t h13 H
 refine GoC.seq ?_
 refine GoC.region ?_
 refine GoO.pure (ps_assign rfl rfl) ?_
 refine GoO.nil ?_
 refine GoK.code ?_
 obtain rfl := Option.some.inj H
 exact GoC.retL (ds := [.v (.bool true)]) Try.results8 (ResL.cons (ResD.tmp rfl) (ResL.nil)) (Take.nil _) ⟨rfl, rfl⟩
 replace H := ite_f h13 H
 refine GoC.skip ?_
 refine GoK.code ?_
 refine GoC.seq ?_
 refine GoC.region ?_
 refine GoO.pure (ps_move rfl rfl) ?_
 refine GoO.pure (ps_move rfl rfl) ?_
 refine GoO.pure (ps_add rfl rfl rfl c9) ?_
 have c14 := ck_l H; replace H := ck_r H
 refine GoO.pure (ps_add rfl rfl rfl c14) ?_
 refine GoO.pure (ps_move rfl rfl) ?_
 refine GoO.pure (ps_move rfl rfl) ?_
 refine GoO.pure (ps_add rfl rfl rfl c9) ?_
 refine GoO.pure (ps_move rfl rfl) ?_
 refine GoO.pure (ps_move rfl rfl) ?_
 refine GoO.pure (ps_add rfl rfl rfl c9) ?_
 have c15 := ck_l H; replace H := ck_r H
 refine GoO.pure (ps_add rfl rfl rfl c15) ?_
 refine GoO.pure (ps_build (Parts.cons _ _ _ _ _ _ _ _ FdP.of (Part.one _ rfl rfl) rfl rfl (Parts.cons _ _ _ _ _ _ _ _ FdP.of (Part.one _ rfl rfl) rfl rfl (Parts.cons _ _ _ _ _ _ _ _ FdP.of (Part.one _ rfl rfl) rfl rfl (Parts.nil _)))) rfl) ?_
 refine GoO.effB (ef_alloc rfl) (fun β16 => ?_)
 refine GoO.eff1 (ef_storeAg rfl rfl At.p0 upd_whole Nat.zero_lt_one rfl) ?_
 refine GoO.nil ?_
 refine GoK.code ?_
 refine GoC.seq ?_
 refine GoC.seq ?_
 refine GoC.region ?_
 refine GoO.pure (ps_move rfl rfl) ?_
 refine GoO.pure (ps_move rfl rfl) ?_
 refine GoO.nil ?_
 refine GoK.code ?_
 have c17 := ck_l H; replace H := ck_r H
 have hb := bind_l H; clear H
 obtain ⟨l23, hl29, HK20⟩ := hb
 refine GoC.blockJ [(0, .v (.int .i64 m)), (1, .v (.int .i64 n)), (2, slD l), (7, .own β5 1 0 r4.length)] [.one β5 3 1 (row r4)] (fun v h => ∃ (β18 : BK), v = [(9, .ptr β16 4 0 0)] ∧ h = [.one β18 46 3 (row l23), .one β16 50 4 (st1 (nth [.v (.int .i64 ((m + n) + 2)), .v (.int .i64 (m + n)), .v (.int .i64 ((m + n) + 1)), .own β18 3 0 l23.length]))]) ?_ ?_
 refine GoC.loopJ [(0, _), (1, _), (2, _), (7, _), (55, _)] [.one β5 3 1 (row r4)] (fun mQ v h => ∃ (k24 : Nat) (l19 : (List Arc)) (β18 : BK), (k24 + mQ = m.toNat ∧ forN (weirkeep_MatchFlow_B1 m n) mQ k24 l19 = some l23) ∧ v = [(56, .v (.int .i64 ((k24 : Nat) : Int))), (9, .ptr β16 4 0 0)] ∧ h = [.one β18 46 3 (row l19), .one β16 50 4 (st1 (nth [.v (.int .i64 ((m + n) + 2)), .v (.int .i64 (m + n)), .v (.int .i64 ((m + n) + 1)), .own β18 3 0 l19.length]))]) m.toNat ⟨_, _, ⟨0, 0, 0⟩, ⟨by omega, hl29⟩, rfl, rfl⟩ (EnvD.eq rfl (EnvD.eq rfl (EnvD.eq rfl (EnvD.eq rfl (EnvD.eq rfl (EnvD.eq rfl (EnvD.eq rfl (EnvD.nil)))))))) (TkD.no _ _ _ _ _ rfl (TkD.cons _ _ _ _ _ Rem.p0 (HLe.st ⟨⟨⟨⟨trivial, DLe.refl _⟩, DLe.refl _⟩, DLe.refl _⟩, DLe.nilOwn⟩) (TkD.cons _ _ _ _ _ Rem.p0 (HLe.refl _) (TkD.nil _)))) ?_
 rintro m25 v h ⟨k24, l19, β18, ⟨hkk24, hF21⟩, rfl, rfl⟩
 refine GoC.seq ?_
 refine GoC.region ?_
 refine GoO.pure (ps_lss rfl rfl rfl) ?_
 refine GoO.nil ?_
 refine GoK.code ?_
 refine GoC.seq ?_
 refine GoC.condD rfl (fun (hk24 : (k24 : Int) < m) => ?_) (fun (hk24 : ¬ (k24 : Int) < m) => ?_)
 obtain ⟨m25', rfl⟩ : ∃ x, m25 = x + 1 := ⟨m25 - 1, by omega⟩
 have hb := bind_l hF21; clear hF21
 obtain ⟨qrm25, H, hF21⟩ := hb
 have hnk24 : k24 < m.toNat := by omega
 have hIk24 : InI ((k24 : Int) + 1) := inI_cnt hk24 c17
 refine GoC.skip ?_
 refine GoK.code ?_
 refine GoC.seq ?_
 refine GoC.block ?_
 refine GoC.seq ?_
 refine GoC.region ?_
 refine GoO.pure (ps_move rfl rfl) ?_
 refine GoO.pure (ps_assign rfl rfl) ?_
 refine GoO.nil ?_
 refine GoK.code ?_
 refine GoC.region ?_
 refine GoO.pure (ps_fieldAddr rfl rfl) ?_
 refine GoO.pure (ps_load rfl At.p1 At.p1 Nat.zero_lt_one rfl rfl) ?_
 refine GoO.pure (ps_move rfl rfl) ?_
 refine GoO.pure (ps_move rfl rfl) ?_
 refine GoO.pure (ps_add rfl rfl rfl c9) ?_
 refine GoO.pure (ps_move rfl rfl) ?_
 refine GoO.pure (ps_build (Parts.cons _ _ _ _ _ _ _ _ FdP.of (Part.one _ rfl rfl) rfl rfl (Parts.cons _ _ _ _ _ _ _ _ FdP.of (Part.one _ rfl rfl) rfl rfl (Parts.cons _ _ _ _ _ _ _ _ FdP.of (Part.one _ rfl rfl) rfl rfl (Parts.nil _)))) rfl) ?_
 refine GoO.effB (ef_buildSlice (row ([(⟨(m + n), ((k24 : Nat) : Int), 1⟩ : Arc)] : List Arc)) rfl (Parts.cons _ _ _ _ _ _ _ _ ⟨rfl, rfl⟩ (Part.ag _ _ rfl) rfl rfl (Parts.nil _)) rfl rfl rfl rfl) (fun β26 => ?_)
 have c28 := ck_l H; replace H := ck_r H
 refine GoO.effB (ef_append rfl rfl Rem.p1 (Src.own At.p0 (by first | omega | (simp only [subl_length, cpl_length, List.length_set, List.length_append, List.length_cons, List.length_nil, List.length_replicate, row_len]; omega) | (simp only [subl_length, cpl_length, List.length_set, List.length_append, List.length_cons, List.length_nil, List.length_replicate, row_len]; done))) (cat_row (α := Arc) (by first | rfl | omega | (simp only [subl_length, cpl_length, List.length_set, List.length_append, List.length_cons, List.length_nil, List.length_replicate, row_len] <;> first | rfl | omega)) (by first | rfl | omega | (simp only [subl_length, cpl_length, List.length_set, List.length_append, List.length_cons, List.length_nil, List.length_replicate, row_len] <;> first | rfl | omega)) (fun _ _ _ _ => rfl)) (by first | omega | (simp only [subl_length, cpl_length, List.length_set, List.length_append, List.length_cons, List.length_nil, List.length_replicate, row_len]; omega) | (simp only [subl_length, cpl_length, List.length_set, List.length_append, List.length_cons, List.length_nil, List.length_replicate, row_len]; done)) (app_le c28 rfl) rfl rfl rfl) (fun β27 => ?_)
 refine GoO.pure (ps_fieldAddr rfl rfl) ?_
 refine GoO.eff1 (ef_store rfl rfl rfl At.p2 upd_st1 Nat.zero_lt_one rfl) ?_
 refine GoO.nil ?_
 refine GoK.blk ?_
 refine GoK.code ?_
 refine GoC.region ?_
 refine GoO.pure (ps_add rfl rfl rfl hIk24) ?_
 refine GoO.pure (ps_move rfl rfl) ?_
 refine GoO.nil ?_
 obtain rfl := Option.some.inj H
 exact GoK.againJ m25' (by omega) ⟨_, _, β27, ⟨by omega, hF21⟩, rfl, rfl⟩ (EnvD.eq rfl (EnvD.eq rfl (EnvD.eq rfl (EnvD.eq rfl (EnvD.eq rfl (EnvD.eq rfl (EnvD.eq rfl (EnvD.nil)))))))) (TkD.cons _ _ _ _ _ Rem.p0 (HLe.refl _) (TkD.cons _ _ _ _ _ Rem.p1 (HLe.st ⟨⟨⟨⟨trivial, DLe.refl _⟩, DLe.refl _⟩, DLe.refl _⟩, DLe.len (by first | rfl | omega | (simp only [row_len, List.length_append, List.length_cons, List.length_nil] <;> first | rfl | omega))⟩) (TkD.cons _ _ _ _ _ Rem.p1 (HLe.refl _) (TkD.nil _))))
 obtain rfl : m25 = 0 := by omega
 refine GoC.exit rfl ?_
 cases hF21
 exact GoK.meet ⟨β18, rfl, rfl⟩ (EnvD.eq rfl (EnvD.eq rfl (EnvD.eq rfl (EnvD.eq rfl (EnvD.eq rfl (EnvD.nil)))))) (TkD.cons _ _ _ _ _ Rem.p0 (HLe.refl _) (TkD.cons _ _ _ _ _ Rem.p0 (HLe.st ⟨⟨⟨⟨trivial, DLe.refl _⟩, DLe.refl _⟩, DLe.refl _⟩, DLe.len (by first | rfl | omega | (simp only [row_len] <;> first | rfl | omega))⟩) (TkD.cons _ _ _ _ _ Rem.p0 (HLe.refl _) (TkD.nil _))))
 rintro v h ⟨β18, rfl, rfl⟩
 have H := HK20; clear HK20
 refine GoK.code ?_
 refine GoC.seq ?_
 refine GoC.seq ?_
 refine GoC.region ?_
 refine GoO.pure (ps_move rfl rfl) ?_
 refine GoO.pure (ps_move rfl rfl) ?_
 refine GoO.nil ?_
 refine GoK.code ?_
 have c30 := ck_l H; replace H := ck_r H
 have hb := bind_l H; clear H
 obtain ⟨l36, hl43, HK33⟩ := hb
 refine GoC.blockJ [(0, .v (.int .i64 m)), (2, slD l), (7, .own β5 1 0 r4.length)] [.one β5 3 1 (row r4)] (fun v h => ∃ (β31 : BK), v = [(9, .ptr β16 4 0 0)] ∧ h = [.one β31 46 3 (row l36), .one β16 50 4 (st1 (nth [.v (.int .i64 ((m + n) + 2)), .v (.int .i64 (m + n)), .v (.int .i64 ((m + n) + 1)), .own β31 3 0 l36.length]))]) ?_ ?_
 refine GoC.loopJ [(0, _), (1, _), (2, _), (7, _), (70, _)] [.one β5 3 1 (row r4)] (fun mQ v h => ∃ (k37 : Nat) (l32 : (List Arc)) (β31 : BK), (k37 + mQ = n.toNat ∧ forN (weirkeep_MatchFlow_B2 m n) mQ k37 l32 = some l36) ∧ v = [(71, .v (.int .i64 ((k37 : Nat) : Int))), (9, .ptr β16 4 0 0)] ∧ h = [.one β31 46 3 (row l32), .one β16 50 4 (st1 (nth [.v (.int .i64 ((m + n) + 2)), .v (.int .i64 (m + n)), .v (.int .i64 ((m + n) + 1)), .own β31 3 0 l32.length]))]) n.toNat ⟨_, _, β18, ⟨by omega, hl43⟩, rfl, rfl⟩ (EnvD.eq rfl (EnvD.eq rfl (EnvD.eq rfl (EnvD.eq rfl (EnvD.eq rfl (EnvD.eq rfl (EnvD.eq rfl (EnvD.nil)))))))) (TkD.cons _ _ _ _ _ Rem.p0 (HLe.refl _) (TkD.cons _ _ _ _ _ Rem.p0 (HLe.st ⟨⟨⟨⟨trivial, DLe.refl _⟩, DLe.refl _⟩, DLe.refl _⟩, DLe.len (by first | rfl | omega | (simp only [row_len] <;> first | rfl | omega))⟩) (TkD.cons _ _ _ _ _ Rem.p0 (HLe.refl _) (TkD.nil _)))) ?_
 rintro m38 v h ⟨k37, l32, β31, ⟨hkk37, hF34⟩, rfl, rfl⟩
 refine GoC.seq ?_
 refine GoC.region ?_
 refine GoO.pure (ps_lss rfl rfl rfl) ?_
 refine GoO.nil ?_
 refine GoK.code ?_
 refine GoC.seq ?_
 refine GoC.condD rfl (fun (hk37 : (k37 : Int) < n) => ?_) (fun (hk37 : ¬ (k37 : Int) < n) => ?_)
 obtain ⟨m38', rfl⟩ : ∃ x, m38 = x + 1 := ⟨m38 - 1, by omega⟩
 have hb := bind_l hF34; clear hF34
 obtain ⟨qrm38, H, hF34⟩ := hb
 have hnk37 : k37 < n.toNat := by omega
 have hIk37 : InI ((k37 : Int) + 1) := inI_cnt hk37 c30
 refine GoC.skip ?_
 refine GoK.code ?_
 refine GoC.seq ?_
 refine GoC.block ?_
 refine GoC.seq ?_
 refine GoC.region ?_
 refine GoO.pure (ps_move rfl rfl) ?_
 refine GoO.pure (ps_assign rfl rfl) ?_
 refine GoO.nil ?_
 refine GoK.code ?_
 refine GoC.region ?_
 refine GoO.pure (ps_fieldAddr rfl rfl) ?_
 refine GoO.pure (ps_load rfl At.p1 At.p1 Nat.zero_lt_one rfl rfl) ?_
 refine GoO.pure (ps_move rfl rfl) ?_
 refine GoO.pure (ps_move rfl rfl) ?_
 have c39 := ck_l H; replace H := ck_r H
 refine GoO.pure (ps_add rfl rfl rfl c39) ?_
 refine GoO.pure (ps_move rfl rfl) ?_
 refine GoO.pure (ps_move rfl rfl) ?_
 refine GoO.pure (ps_add rfl rfl rfl c9) ?_
 refine GoO.pure (ps_add rfl rfl rfl c15) ?_
 refine GoO.pure (ps_build (Parts.cons _ _ _ _ _ _ _ _ FdP.of (Part.one _ rfl rfl) rfl rfl (Parts.cons _ _ _ _ _ _ _ _ FdP.of (Part.one _ rfl rfl) rfl rfl (Parts.cons _ _ _ _ _ _ _ _ FdP.of (Part.one _ rfl rfl) rfl rfl (Parts.nil _)))) rfl) ?_
 refine GoO.effB (ef_buildSlice (row ([(⟨(m + ((k37 : Nat) : Int)), ((m + n) + 1), 1⟩ : Arc)] : List Arc)) rfl (Parts.cons _ _ _ _ _ _ _ _ ⟨rfl, rfl⟩ (Part.ag _ _ rfl) rfl rfl (Parts.nil _)) rfl rfl rfl rfl) (fun β40 => ?_)
 have c42 := ck_l H; replace H := ck_r H
 refine GoO.effB (ef_append rfl rfl Rem.p1 (Src.own At.p0 (by first | omega | (simp only [subl_length, cpl_length, List.length_set, List.length_append, List.length_cons, List.length_nil, List.length_replicate, row_len]; omega) | (simp only [subl_length, cpl_length, List.length_set, List.length_append, List.length_cons, List.length_nil, List.length_replicate, row_len]; done))) (cat_row (α := Arc) (by first | rfl | omega | (simp only [subl_length, cpl_length, List.length_set, List.length_append, List.length_cons, List.length_nil, List.length_replicate, row_len] <;> first | rfl | omega)) (by first | rfl | omega | (simp only [subl_length, cpl_length, List.length_set, List.length_append, List.length_cons, List.length_nil, List.length_replicate, row_len] <;> first | rfl | omega)) (fun _ _ _ _ => rfl)) (by first | omega | (simp only [subl_length, cpl_length, List.length_set, List.length_append, List.length_cons, List.length_nil, List.length_replicate, row_len]; omega) | (simp only [subl_length, cpl_length, List.length_set, List.length_append, List.length_cons, List.length_nil, List.length_replicate, row_len]; done)) (app_le c42 rfl) rfl rfl rfl) (fun β41 => ?_)
 refine GoO.pure (ps_fieldAddr rfl rfl) ?_
 refine GoO.eff1 (ef_store rfl rfl rfl At.p2 upd_st1 Nat.zero_lt_one rfl) ?_
 refine GoO.nil ?_
 refine GoK.blk ?_
 refine GoK.code ?_
 refine GoC.region ?_
 refine GoO.pure (ps_add rfl rfl rfl hIk37) ?_
 refine GoO.pure (ps_move rfl rfl) ?_
 refine GoO.nil ?_
 obtain rfl := Option.some.inj H
 exact GoK.againJ m38' (by omega) ⟨_, _, β41, ⟨by omega, hF34⟩, rfl, rfl⟩ (EnvD.eq rfl (EnvD.eq rfl (EnvD.eq rfl (EnvD.eq rfl (EnvD.eq rfl (EnvD.eq rfl (EnvD.eq rfl (EnvD.nil)))))))) (TkD.cons _ _ _ _ _ Rem.p0 (HLe.refl _) (TkD.cons _ _ _ _ _ Rem.p1 (HLe.st ⟨⟨⟨⟨trivial, DLe.refl _⟩, DLe.refl _⟩, DLe.refl _⟩, DLe.len (by first | rfl | omega | (simp only [row_len, List.length_append, List.length_cons, List.length_nil] <;> first | rfl | omega))⟩) (TkD.cons _ _ _ _ _ Rem.p1 (HLe.refl _) (TkD.nil _))))
 obtain rfl : m38 = 0 := by omega
 refine GoC.exit rfl ?_
 cases hF34
 exact GoK.meet ⟨β31, rfl, rfl⟩ (EnvD.eq rfl (EnvD.eq rfl (EnvD.eq rfl (EnvD.eq rfl (EnvD.nil))))) (TkD.cons _ _ _ _ _ Rem.p0 (HLe.refl _) (TkD.cons _ _ _ _ _ Rem.p0 (HLe.st ⟨⟨⟨⟨trivial, DLe.refl _⟩, DLe.refl _⟩, DLe.refl _⟩, DLe.len (by first | rfl | omega | (simp only [row_len] <;> first | rfl | omega))⟩) (TkD.cons _ _ _ _ _ Rem.p0 (HLe.refl _) (TkD.nil _))))
 rintro v h ⟨β31, rfl, rfl⟩
 have H := HK33; clear HK33
 refine GoK.code ?_
 refine GoC.seq ?_
 refine GoC.seq ?_
 refine GoC.region ?_
 refine GoO.pure (ps_move rfl rfl) ?_
 refine GoO.pure (ps_len rfl (by constructor) rfl) ?_
 refine GoO.pure (ps_move rfl rfl) ?_
 refine GoO.nil ?_
 refine GoK.code ?_
 have hb := bind_l H; clear H
 obtain ⟨l49, hl57, HK46⟩ := hb
 refine GoC.blockJ [(7, .own β5 1 0 r4.length)] [.one β5 3 1 (row r4)] (fun v h => ∃ (β44 : BK), v = [(9, .ptr β16 4 0 0)] ∧ h = [.one β44 46 3 (row l49), .one β16 50 4 (st1 (nth [.v (.int .i64 ((m + n) + 2)), .v (.int .i64 (m + n)), .v (.int .i64 ((m + n) + 1)), .own β44 3 0 l49.length]))]) ?_ ?_
 refine GoC.loopJ [(0, _), (7, _), (88, _), (89, _)] [.one β5 3 1 (row r4)] (fun mQ v h => ∃ (k50 : Nat) (l45 : (List Arc)) (β44 : BK), (k50 + mQ = l.length ∧ forN (weirkeep_MatchFlow_B3 m l) mQ k50 l45 = some l49) ∧ v = [(90, .v (.int .i64 ((k50 : Nat) : Int))), (9, .ptr β16 4 0 0)] ∧ h = [.one β44 46 3 (row l45), .one β16 50 4 (st1 (nth [.v (.int .i64 ((m + n) + 2)), .v (.int .i64 (m + n)), .v (.int .i64 ((m + n) + 1)), .own β44 3 0 l45.length]))]) l.length ⟨_, _, β31, ⟨by omega, hl57⟩, rfl, rfl⟩ (EnvD.eq rfl (EnvD.eq rfl (EnvD.eq rfl (EnvD.eq rfl (EnvD.eq rfl (EnvD.eq rfl (EnvD.nil))))))) (TkD.cons _ _ _ _ _ Rem.p0 (HLe.refl _) (TkD.cons _ _ _ _ _ Rem.p0 (HLe.st ⟨⟨⟨⟨trivial, DLe.refl _⟩, DLe.refl _⟩, DLe.refl _⟩, DLe.len (by first | rfl | omega | (simp only [row_len] <;> first | rfl | omega))⟩) (TkD.cons _ _ _ _ _ Rem.p0 (HLe.refl _) (TkD.nil _)))) ?_
 rintro m51 v h ⟨k50, l45, β44, ⟨hkk50, hF47⟩, rfl, rfl⟩
 refine GoC.seq ?_
 refine GoC.region ?_
 refine GoO.pure (ps_lss rfl rfl rfl) ?_
 refine GoO.nil ?_
 refine GoK.code ?_
 refine GoC.seq ?_
 refine GoC.condD rfl (fun (hk50 : (k50 : Int) < ((l.length : Nat) : Int)) => ?_) (fun (hk50 : ¬ (k50 : Int) < ((l.length : Nat) : Int)) => ?_)
 obtain ⟨m51', rfl⟩ : ∃ x, m51 = x + 1 := ⟨m51 - 1, by omega⟩
 have hb := bind_l hF47; clear hF47
 obtain ⟨qrm51, H, hF47⟩ := hb
 have hnk50 : k50 < l.length := by omega
 have hIk50 : InI ((k50 : Int) + 1) := inI_len hk50 ml11
 refine GoC.skip ?_
 refine GoK.code ?_
 refine GoC.seq ?_
 refine GoC.block ?_
 refine GoC.seq ?_
 refine GoC.region ?_
 refine GoO.pure (ps_indexAddrRN rfl rfl hnk50 rfl) ?_
 refine GoO.pure (ps_loadAgR rfl hnk50 rfl rfl) ?_
 refine GoO.effB (ef_alloc rfl) (fun β52 => ?_)
 refine GoO.eff1 (ef_storeAg rfl rfl At.p0 upd_whole Nat.zero_lt_one rfl) ?_
 refine GoO.nil ?_
 refine GoK.code ?_
 refine GoC.region ?_
 refine GoO.pure (ps_fieldAddr rfl rfl) ?_
 refine GoO.pure (ps_load rfl At.p2 At.p2 Nat.zero_lt_one rfl rfl) ?_
 refine GoO.pure (ps_fieldAddr rfl rfl) ?_
 refine GoO.pure (ps_load rfl At.p0 At.p0 Nat.zero_lt_one rfl rfl) ?_
 refine GoO.pure (ps_move rfl rfl) ?_
 refine GoO.pure (ps_fieldAddr rfl rfl) ?_
 refine GoO.pure (ps_load rfl At.p0 At.p0 Nat.zero_lt_one rfl rfl) ?_
 have c53 := ck_l H; replace H := ck_r H
 refine GoO.pure (ps_add rfl rfl rfl c53) ?_
 refine GoO.pure (ps_build (Parts.cons _ _ _ _ _ _ _ _ FdP.of (Part.one _ rfl rfl) rfl rfl (Parts.cons _ _ _ _ _ _ _ _ FdP.of (Part.one _ rfl rfl) rfl rfl (Parts.cons _ _ _ _ _ _ _ _ FdP.of (Part.one _ rfl rfl) rfl rfl (Parts.nil _)))) rfl) ?_
 refine GoO.effB (ef_buildSlice (row ([(⟨(l.getD k50 El.d).f, (m + ((l.getD k50 El.d).t)), 1⟩ : Arc)] : List Arc)) rfl (Parts.cons _ _ _ _ _ _ _ _ ⟨rfl, rfl⟩ (Part.ag _ _ rfl) rfl rfl (Parts.nil _)) rfl rfl rfl rfl) (fun β54 => ?_)
 have c56 := ck_l H; replace H := ck_r H
 refine GoO.effB (ef_append rfl rfl Rem.p2 (Src.own At.p0 (by first | omega | (simp only [subl_length, cpl_length, List.length_set, List.length_append, List.length_cons, List.length_nil, List.length_replicate, row_len]; omega) | (simp only [subl_length, cpl_length, List.length_set, List.length_append, List.length_cons, List.length_nil, List.length_replicate, row_len]; done))) (cat_row (α := Arc) (by first | rfl | omega | (simp only [subl_length, cpl_length, List.length_set, List.length_append, List.length_cons, List.length_nil, List.length_replicate, row_len] <;> first | rfl | omega)) (by first | rfl | omega | (simp only [subl_length, cpl_length, List.length_set, List.length_append, List.length_cons, List.length_nil, List.length_replicate, row_len] <;> first | rfl | omega)) (fun _ _ _ _ => rfl)) (by first | omega | (simp only [subl_length, cpl_length, List.length_set, List.length_append, List.length_cons, List.length_nil, List.length_replicate, row_len]; omega) | (simp only [subl_length, cpl_length, List.length_set, List.length_append, List.length_cons, List.length_nil, List.length_replicate, row_len]; done)) (app_le c56 rfl) rfl rfl rfl) (fun β55 => ?_)
 refine GoO.pure (ps_fieldAddr rfl rfl) ?_
 refine GoO.eff1 (ef_store rfl rfl rfl At.p3 upd_st1 Nat.zero_lt_one rfl) ?_
 refine GoO.nil ?_
 refine GoK.blk ?_
 refine GoK.code ?_
 refine GoC.region ?_
 refine GoO.pure (ps_add rfl rfl rfl hIk50) ?_
 refine GoO.pure (ps_move rfl rfl) ?_
 refine GoO.nil ?_
 obtain rfl := Option.some.inj H
 exact GoK.againJ m51' (by omega) ⟨_, _, β55, ⟨by omega, hF47⟩, rfl, rfl⟩ (EnvD.eq rfl (EnvD.eq rfl (EnvD.eq rfl (EnvD.eq rfl (EnvD.eq rfl (EnvD.eq rfl (EnvD.nil))))))) (TkD.cons _ _ _ _ _ Rem.p0 (HLe.refl _) (TkD.cons _ _ _ _ _ Rem.p2 (HLe.st ⟨⟨⟨⟨trivial, DLe.refl _⟩, DLe.refl _⟩, DLe.refl _⟩, DLe.len (by first | rfl | omega | (simp only [row_len, List.length_append, List.length_cons, List.length_nil] <;> first | rfl | omega))⟩) (TkD.cons _ _ _ _ _ Rem.p2 (HLe.refl _) (TkD.nil _))))
 obtain rfl : m51 = 0 := by omega
 refine GoC.exit rfl ?_
 cases hF47
 exact GoK.meet ⟨β44, rfl, rfl⟩ (EnvD.eq rfl (EnvD.eq rfl (EnvD.nil))) (TkD.cons _ _ _ _ _ Rem.p0 (HLe.refl _) (TkD.cons _ _ _ _ _ Rem.p0 (HLe.st ⟨⟨⟨⟨trivial, DLe.refl _⟩, DLe.refl _⟩, DLe.refl _⟩, DLe.len (by first | rfl | omega | (simp only [row_len] <;> first | rfl | omega))⟩) (TkD.cons _ _ _ _ _ Rem.p0 (HLe.refl _) (TkD.nil _))))
 rintro v h ⟨β44, rfl, rfl⟩
 have H := HK46; clear HK46
 refine GoK.code ?_
 refine GoC.seq ?_
 refine GoC.region ?_
 refine GoO.pure (ps_loadAg rfl At.p1 At.p1 Nat.zero_lt_one rfl rfl) ?_
 have hb := bind_l H; clear H
 obtain ⟨⟨r58, r60, r61⟩, e62, H⟩ := hb
 refine GoO.effC (ef_call rfl (Take.nil _) (Take.cons _ _ _ _ _ Rem.p0 (Take.nil _)) (most_Of_spec (⟨((m + n) + 2), (m + n), ((m + n) + 1), l49⟩ : Net) e62) (LendL.cons (Lend.agA ⟨⟨⟨⟨trivial, Lend.refl _ _⟩, Lend.refl _ _⟩, Lend.refl _ _⟩, Lend.all' At.p0 (by first | rfl | omega | (simp only [subl_length, cpl_length, List.length_set, List.length_append, List.length_cons, List.length_nil, List.length_replicate, row_len] <;> first | rfl | omega)) rfl⟩) (LendL.nil)) rfl (most_Of_I (r58, r60, r61))) (fun rr HH hp => ?_)
 obtain ⟨β59, rfl, rfl⟩ := hp
 refine GoO.pure (ps_move rfl rfl) ?_
 refine GoO.pure (ps_extract rfl rfl rfl) ?_
 refine GoO.pure (ps_extract rfl rfl rfl) ?_
 refine GoO.pure (ps_extract rfl rfl rfl) ?_
 refine GoO.pure (ps_assign rfl rfl) ?_
 refine GoO.pure (ps_assign rfl rfl) ?_
 refine GoO.pure (ps_assign rfl rfl) ?_
 refine GoO.nil ?_
 refine GoK.code ?_
 refine GoC.seq ?_
 refine GoC.region ?_
 refine GoO.pure (ps_move rfl rfl) ?_
 refine GoO.pure (ps_eql rfl rfl rfl) ?_
 refine GoO.pure (ps_move rfl rfl) ?_
 refine GoO.guardD rfl rfl rfl rfl (fun h63 => ?_) (fun h63 => ?_)
 replace H := ite_t h63 H
 refine GoO.pure (ps_move rfl rfl) ?_
 refine GoO.guardT rfl rfl rfl ?_
 refine GoO.pure (ps_move rfl rfl) ?_
 refine GoO.guardT rfl rfl rfl ?_
 refine GoO.pure (ps_len rfl (by constructor) rfl) ?_
 refine GoO.lenLe (n := r4.length) (x := .tmp 117) rfl (by constructor) own_lenLe (fun ml64 => ?_)
 refine GoO.guardT rfl rfl rfl ?_
 refine GoO.pure (ps_eql rfl rfl rfl) ?_
 refine GoO.pure (ps_pickT rfl rfl rfl) ?_
 refine GoO.pure (ps_assign rfl rfl) ?_
 refine GoO.nil ?_
 refine GoK.code ?_
 obtain rfl := Option.some.inj H
 exact GoC.retL (ds := [.v (.bool (decide (r60 = ((r4.length : Nat) : Int))))]) Try.results8 (ResL.cons (ResD.tmp rfl) (ResL.nil)) (Take.nil _) ⟨rfl, rfl⟩
 replace H := ite_f h63 H
 refine GoO.guardF rfl rfl rfl rfl ?_
 refine GoO.guardF rfl rfl rfl rfl ?_
 refine GoO.guardF rfl rfl rfl rfl ?_
 refine GoO.pure (ps_pickF rfl rfl rfl) ?_
 refine GoO.pure (ps_assign rfl rfl) ?_
 refine GoO.nil ?_
 refine GoK.code ?_
 obtain rfl := Option.some.inj H
 exact GoC.retL (ds := [.v (.bool false)]) Try.results8 (ResL.cons (ResD.tmp rfl) (ResL.nil)) (Take.nil _) ⟨rfl, rfl⟩
 replace H := ite_t h10 H
 refine GoO.guardF rfl rfl rfl rfl ?_
 refine GoO.guardF rfl rfl rfl rfl ?_
 refine GoO.guardF rfl rfl rfl rfl ?_
 refine GoO.guardF rfl rfl rfl rfl ?_
 refine GoO.guardF rfl rfl rfl rfl ?_
 refine GoO.guardF rfl rfl rfl rfl ?_
 refine GoO.pure (ps_pickT rfl rfl rfl) ?_
 refine GoO.nil ?_
 refine GoK.code ?_
 refine GoC.condT rfl ?_
 refine GoC.seq ?_
 refine GoC.region ?_
 refine GoO.pure (ps_assign rfl rfl) ?_
 refine GoO.nil ?_
 refine GoK.code ?_
 obtain rfl := Option.some.inj H
 exact GoC.retL (ds := [.v (.bool true)]) Try.results8 (ResL.cons (ResD.tmp rfl) (ResL.nil)) (Take.nil _) ⟨rfl, rfl⟩
 replace H := ite_t h8 H
 refine GoO.guardF rfl rfl rfl rfl ?_
 refine GoO.guardF rfl rfl rfl rfl ?_
 refine GoO.guardF rfl rfl rfl rfl ?_
 refine GoO.pure (ps_pickT rfl rfl rfl) ?_
 refine GoO.pure (ps_move rfl rfl) ?_
 refine GoO.guardF rfl rfl rfl rfl ?_
 refine GoO.guardF rfl rfl rfl rfl ?_
 refine GoO.guardF rfl rfl rfl rfl ?_
 refine GoO.guardF rfl rfl rfl rfl ?_
 refine GoO.guardF rfl rfl rfl rfl ?_
 refine GoO.guardF rfl rfl rfl rfl ?_
 refine GoO.guardF rfl rfl rfl rfl ?_
 refine GoO.pure (ps_pickT rfl rfl rfl) ?_
 refine GoO.nil ?_
 refine GoK.code ?_
 refine GoC.condT rfl ?_
 refine GoC.seq ?_
 refine GoC.region ?_
 refine GoO.pure (ps_assign rfl rfl) ?_
 refine GoO.nil ?_
 refine GoK.code ?_
 obtain rfl := Option.some.inj H
 exact GoC.retL (ds := [.v (.bool true)]) Try.results8 (ResL.cons (ResD.tmp rfl) (ResL.nil)) (Take.nil _) ⟨rfl, rfl⟩

end Go.Proofs.Ythgjamhcnaamdaa
