/- The functions weirkeep.NeedLess, told as plain functions, and that the code does as they say. -/
import Derived.Test.YtdklbcgfjleagaaTys
import Derived.Test.YtdklbcgfjleagaaDat
import Derived.Test.YtdklbcgfjleagaaGkeep
import Derived.Test.YtdklbcgfjleagaaGneed
import Derived.Test.YtdklbcgfjleagaaGref
import Derived.Test.YtdklbcgfjleagaaGslices
namespace Go.Proofs.Ytdklbcgfjleagaa
open Go Go.Proofs.Ytdklbcgfjleagaa.Sx
set_option linter.unusedVariables false
set_option linter.unusedSimpArgs false
def weirkeep_NeedLess_F (n : Int) (l : (List Need)) (k : Int) (low : Int) (more : Int) : Option (Bool) :=
 (weirkeep_needs_F).bind fun r1 =>
 if (!r1) = true then
  some false
 else
  (need_Round_F n l).bind fun (r4, r6) =>
  if r6 ≠ 0 then
   some true
  else
   if k < 0 then
    some true
   else
    if ((l.length : Nat) : Int) ≤ k then
     some true
    else
     (slices_Clone_Need_F l).bind fun r12 =>
     ck (0 ≤ k ∧ k < ((l.length : Nat) : Int)) <|
     ck (InI (((l.getD k.toNat El.d).low) + 1)) <|
     (weirref_Rest_F low (((l.getD k.toNat El.d).low) + 1)).bind fun r17 =>
     ck (0 ≤ k ∧ k < ((r12.length : Nat) : Int)) <|
     ck (InI (334 - ((l.getD k.toNat El.d).cap))) <|
     (weirref_Rest_F more (334 - ((l.getD k.toNat El.d).cap))).bind fun r21 =>
     ck (InI ((((r12.set k.toNat (⟨(r12.getD k.toNat El.d).f, (r12.getD k.toNat El.d).t, r17, (r12.getD k.toNat El.d).cap⟩ : Need)).getD k.toNat El.d).cap) + r21)) <|
     (need_Round_F n (r12.set k.toNat (⟨(r12.getD k.toNat El.d).f, (r12.getD k.toNat El.d).t, r17, ((((r12.set k.toNat (⟨(r12.getD k.toNat El.d).f, (r12.getD k.toNat El.d).t, r17, (r12.getD k.toNat El.d).cap⟩ : Need)).getD k.toNat El.d).cap) + r21)⟩ : Need))).bind fun (r24, r26) =>
     some (decide (r26 = 0))
def weirkeep_NeedLess_P (out : Bool) (d : D) (H : List HL) : Prop := d = .v (.bool out) ∧ H = []
theorem weirkeep_NeedLess_I (out : Bool) : IndepP (weirkeep_NeedLess_P out) := IndepP.of (by rintro _ _ ⟨rfl, rfl⟩; exact ⟨inferInstance, inferInstance⟩)
set_option maxRecDepth 100000 in
set_option maxHeartbeats 4000000 in
theorem weirkeep_NeedLess_spec (n : Int) (l : (List Need)) (k : Int) (low : Int) (more : Int) {out : Bool} (H : weirkeep_NeedLess_F n l k low more = some out) : Does Try.prog 9 [.v (.int .i64 n), slD l, .v (.int .i64 k), .v (.int .i64 low), .v (.int .i64 more)] [] (weirkeep_NeedLess_P out) := by
 unfold weirkeep_NeedLess_F at H
 refine Does.intro Try.func9 rfl Try.ntmps9 rfl fun w0 I0 => ?_
 refine GoC.seq ?_
 refine GoC.region ?_
 refine GoO.pure (ps_assign rfl rfl) ?_
 refine GoO.nil ?_
 refine GoK.code ?_
 refine GoC.seq ?_
 refine GoC.seq ?_
 refine GoC.region ?_
 have hb := bind_l H; clear H
 obtain ⟨r1, e2, H⟩ := hb
 refine GoO.effC (ef_call rfl (Take.nil _) (Take.nil _) (weirkeep_needs_spec e2) (LendL.nil) rfl (weirkeep_needs_I (r1))) (fun rr HH hp => ?_)
 obtain ⟨rfl, rfl⟩ := hp
 refine GoO.pure (ps_not rfl rfl) ?_
 refine GoO.nil ?_
 refine GoK.code ?_
 refine GoC.cond rfl (fun h3 => ?_) (fun h3 => ?_)
 replace H := itb_t h3 H
 refine GoC.seq ?_
 refine GoC.region ?_
 refine GoO.pure (ps_assign rfl rfl) ?_
 refine GoO.nil ?_
 refine GoK.code ?_
 obtain rfl := Option.some.inj H
 exact GoC.retL (ds := [.v (.bool false)]) Try.results9 (ResL.cons (ResD.tmp rfl) (ResL.nil)) (Take.nil _) ⟨rfl, rfl⟩
 replace H := itb_f h3 H
 refine GoC.skip ?_
 refine GoK.code ?_
 refine GoC.seq ?_
 refine GoC.region ?_
 refine GoO.pure (ps_move rfl rfl) ?_
 refine GoO.pure (ps_move rfl rfl) ?_
 have hb := bind_l H; clear H
 obtain ⟨⟨r4, r6⟩, e7, H⟩ := hb
 refine GoO.effC (ef_call rfl (Take.nil _) (Take.nil _) (need_Round_spec n l e7) (LendL.cons (Lend.refl _ _) (LendL.cons (Lend.refl _ _) (LendL.nil))) rfl (need_Round_I (r4, r6))) (fun rr HH hp => ?_)
 obtain ⟨β5, rfl, rfl⟩ := hp
 refine GoO.pure (ps_move rfl rfl) ?_
 refine GoO.pure (ps_extract rfl rfl rfl) ?_
 refine GoO.pure (ps_extract rfl rfl rfl) ?_
 refine GoO.pure (ps_assign rfl rfl) ?_
 refine GoO.pure (ps_assign rfl rfl) ?_
 refine GoO.nil ?_
 refine GoK.code ?_
 refine GoC.seq ?_
 refine GoC.seq ?_
 refine GoC.region ?_
 refine GoO.pure (ps_move rfl rfl) ?_
 refine GoO.pure (ps_neq rfl rfl rfl) ?_
 refine GoO.pure (ps_move rfl rfl) ?_
 refine GoO.guardE rfl rfl rfl rfl (fun h8 => ?_) (fun h8 => ?_)
 replace H := ite_f h8 H
 refine GoO.pure (ps_move rfl rfl) ?_
 refine GoO.guardT rfl rfl rfl ?_
 refine GoO.pure (ps_lss rfl rfl rfl) ?_
 refine GoO.pure (ps_pickF rfl rfl rfl) ?_
 refine GoO.pure (ps_move rfl rfl) ?_
 refine GoO.guardE rfl rfl rfl rfl (fun h9 => ?_) (fun h9 => ?_)
 replace H := ite_f h9 H
 refine GoO.pure (ps_move rfl rfl) ?_
 refine GoO.guardT rfl rfl rfl ?_
 refine GoO.pure (ps_move rfl rfl) ?_
 refine GoO.guardT rfl rfl rfl ?_
 refine GoO.pure (ps_len rfl (by constructor) rfl) ?_
 refine GoO.lenLe (n := l.length) (x := .tmp 32) rfl (by constructor) sl_lenLe (fun ml10 => ?_)
 refine GoO.guardT rfl rfl rfl ?_
 refine GoO.pure (ps_geq rfl rfl rfl) ?_
 refine GoO.pure (ps_pickF rfl rfl rfl) ?_
 refine GoO.nil ?_
 refine GoK.code ?_
 refine GoC.condD rfl (fun h11 => ?_) (fun h11 => ?_)
 replace H := ite_t h11 H
 refine GoC.seq ?_
 refine GoC.region ?_
 refine GoO.pure (ps_assign rfl rfl) ?_
 refine GoO.nil ?_
 refine GoK.code ?_
 obtain rfl := Option.some.inj H
 exact GoC.retL (ds := [.v (.bool true)]) Try.results9 (ResL.cons (ResD.tmp rfl) (ResL.nil)) (Take.nil _) ⟨rfl, rfl⟩
 replace H := ite_f h11 H
 refine GoC.skip ?_
 refine GoK.code ?_
 refine GoC.seq ?_
 refine GoC.region ?_
 refine GoO.pure (ps_move rfl rfl) ?_
 have hb := bind_l H; clear H
 obtain ⟨r12, e14, H⟩ := hb
 refine GoO.effC (ef_call rfl (Take.nil _) (Take.nil _) (slices_Clone_Need_spec l e14) (LendL.cons (Lend.refl _ _) (LendL.nil)) rfl (slices_Clone_Need_I (r12))) (fun rr HH hp => ?_)
 obtain ⟨β13, rfl, rfl⟩ := hp
 refine GoO.pure (ps_assign rfl rfl) ?_
 refine GoO.nil ?_
 refine GoK.code ?_
 refine GoC.seq ?_
 refine GoC.region ?_
 refine GoO.pure (ps_move rfl rfl) ?_
 refine GoO.pure (ps_move rfl rfl) ?_
 refine GoO.pure (ps_move rfl rfl) ?_
 refine GoO.pure (ps_move rfl rfl) ?_
 refine GoO.pure (ps_move rfl rfl) ?_
 have c15 := ck_l H; replace H := ck_r H
 refine GoO.pure (ps_indexAddrR rfl rfl c15 rfl) ?_
 refine GoO.pure (ps_fieldAddrR rfl rfl) ?_
 refine GoO.pure (ps_loadR rfl (idx_lt c15) rfl rfl) ?_
 have c16 := ck_l H; replace H := ck_r H
 refine GoO.pure (ps_add rfl rfl rfl c16) ?_
 have hb := bind_l H; clear H
 obtain ⟨r17, e18, H⟩ := hb
 refine GoO.effC (ef_call rfl (Take.nil _) (Take.nil _) (weirref_Rest_spec low (((l.getD k.toNat El.d).low) + 1) e18) (LendL.cons (Lend.refl _ _) (LendL.cons (Lend.refl _ _) (LendL.nil))) rfl (weirref_Rest_I (r17))) (fun rr HH hp => ?_)
 obtain ⟨rfl, rfl⟩ := hp
 have c19 := ck_l H; replace H := ck_r H
 refine GoO.pure (ps_indexAddr0 rfl rfl c19 rfl) ?_
 refine GoO.pure (ps_fieldAddr rfl rfl) ?_
 refine GoO.eff1 (ef_store rfl rfl rfl At.p0 (upd_rowF (v := (⟨(r12.getD k.toNat El.d).f, (r12.getD k.toNat El.d).t, r17, (r12.getD k.toNat El.d).cap⟩ : Need)) ⟨⟨⟨⟨trivial, rfl⟩, rfl⟩, rfl⟩, rfl⟩) (idx_lt c19) rfl) ?_
 refine GoO.nil ?_
 refine GoK.code ?_
 refine GoC.seq ?_
 refine GoC.drawP (.q 0 (.q 1 (.q 2 (.q 3 (.q 5 (.q 6 (.q 7 (.q 8 (.q 9 (.q 10 (.q 11 (.two 4 12 (.one 12 (.q 13 (.q 14 (.q 15 (.one 16 (.done)))))) (.one 4 (.q 13 (.q 14 (.q 15 (.one 16 (.done)))))))))))))))))) [] follows (by kernel_rfl) (Take.nil _) ?_
 refine GoP.qN rfl (ps_move rfl rfl) ?_
 refine GoP.qN rfl (ps_move rfl rfl) ?_
 refine GoP.qN rfl (ps_indexAddr0 rfl rfl c19 rfl) ?_
 refine GoP.qN rfl (ps_fieldAddr rfl rfl) ?_
 refine GoP.qN rfl (ps_move rfl rfl) ?_
 refine GoP.qN rfl (ps_move rfl rfl) ?_
 refine GoP.qN rfl (ps_move rfl rfl) ?_
 refine GoP.qN rfl (ps_indexAddrR rfl rfl c15 rfl) ?_
 refine GoP.qN rfl (ps_fieldAddrR rfl rfl) ?_
 refine GoP.qN rfl (ps_loadR rfl (idx_lt c15) rfl rfl) ?_
 have c20 := ck_l H; replace H := ck_r H
 refine GoP.qN rfl (ps_sub rfl rfl rfl c20) ?_
 have hb := bind_l H; clear H
 obtain ⟨r21, e22, H⟩ := hb
 have c23 := ck_l H; replace H := ck_r H
 apply GoP.fork0
 exact rfl
 exact rfl
 exact trivial
 exact trivial
 exact Eff.pure (H1 := [.one β13 56 4 (row (r12.set k.toNat (⟨(r12.getD k.toNat El.d).f, (r12.getD k.toNat El.d).t, r17, (r12.getD k.toNat El.d).cap⟩ : Need))), .one β5 3 1 (row r4)]) (ps_load rfl At.p0 At.p0 (lt_len (idx_lt c19) (by first | rfl | omega | (simp only [row_len, List.length_set] <;> first | rfl | omega))) rfl rfl)
 exact ef_call rfl (Take.nil _) (Take.nil _) (weirref_Rest_spec more (334 - ((l.getD k.toNat El.d).cap)) e22) (LendL.cons (Lend.refl _ _) (LendL.cons (Lend.refl _ _) (LendL.nil))) rfl (weirref_Rest_I (r21))
 exact (Take.nil _)
 exact (Take.nil _)
 intro hQ
 rintro _ rfl
 refine GoP.oneC rfl trivial (ef_call rfl (Take.nil _) (Take.nil _) (weirref_Rest_spec more (334 - ((l.getD k.toNat El.d).cap)) e22) (LendL.cons (Lend.refl _ _) (LendL.cons (Lend.refl _ _) (LendL.nil))) rfl (weirref_Rest_I (r21))) (Take.nil _) (fun rr HH hp => ?_)
 obtain ⟨rfl, rfl⟩ := hp
 refine GoP.qN rfl (ps_add rfl rfl rfl c23) ?_
 refine GoP.qN rfl (ps_indexAddr0 rfl rfl c19 rfl) ?_
 refine GoP.qN rfl (ps_fieldAddr rfl rfl) ?_
 refine GoP.one1 rfl trivial (ef_store rfl rfl rfl At.p0 (upd_rowFF (xs := r12) (v := (⟨(r12.getD k.toNat El.d).f, (r12.getD k.toNat El.d).t, r17, ((((r12.set k.toNat (⟨(r12.getD k.toNat El.d).f, (r12.getD k.toNat El.d).t, r17, (r12.getD k.toNat El.d).cap⟩ : Need)).getD k.toNat El.d).cap) + r21)⟩ : Need)) ⟨⟨⟨⟨trivial, rfl⟩, rfl⟩, rfl⟩, rfl⟩ (idx_lt c19)) (lt_len (idx_lt c19) (by first | rfl | omega | (simp only [row_len, List.length_set] <;> first | rfl | omega))) rfl) (Take.cons _ _ _ _ _ Rem.p0 (Take.nil _)) ?_
 exact GoP.done (hQ)
 intro hQ
 rintro _ ⟨_, _, hp, rfl⟩
 obtain ⟨rfl, rfl⟩ := hp
 refine GoP.oneN rfl (ps_load rfl At.p0 At.p0 (lt_len (idx_lt c19) (by first | rfl | omega | (simp only [row_len, List.length_set] <;> first | rfl | omega))) rfl rfl) (Take.nil _) ?_
 refine GoP.qN rfl (ps_add rfl rfl rfl c23) ?_
 refine GoP.qN rfl (ps_indexAddr0 rfl rfl c19 rfl) ?_
 refine GoP.qN rfl (ps_fieldAddr rfl rfl) ?_
 refine GoP.one1 rfl trivial (ef_store rfl rfl rfl At.p0 (upd_rowFF (xs := r12) (v := (⟨(r12.getD k.toNat El.d).f, (r12.getD k.toNat El.d).t, r17, ((((r12.set k.toNat (⟨(r12.getD k.toNat El.d).f, (r12.getD k.toNat El.d).t, r17, (r12.getD k.toNat El.d).cap⟩ : Need)).getD k.toNat El.d).cap) + r21)⟩ : Need)) ⟨⟨⟨⟨trivial, rfl⟩, rfl⟩, rfl⟩, rfl⟩ (idx_lt c19)) (lt_len (idx_lt c19) (by first | rfl | omega | (simp only [row_len, List.length_set] <;> first | rfl | omega))) rfl) (Take.cons _ _ _ _ _ Rem.p0 (Take.nil _)) ?_
 refine GoP.done (GoK.le ?_ (hQ))
 refine Le.ofDW ?_ (TkD.cons _ _ _ _ _ Rem.p0 (HLe.refl _) (TkD.cons _ _ _ _ _ Rem.p0 (HLe.refl _) (TkD.nil _)))
 repeat (first | exact EnvLeW.nil | refine EnvLeW.cons rfl ?_ | refine EnvLeW.skip rfl ?_)
 refine GoK.code ?_
 refine GoC.seq ?_
 refine GoC.region ?_
 refine GoO.pure (ps_move rfl rfl) ?_
 refine GoO.pure (ps_move rfl rfl) ?_
 have hb := bind_l H; clear H
 obtain ⟨⟨r24, r26⟩, e27, H⟩ := hb
 refine GoO.effC (ef_call rfl (Take.nil _) (Take.cons _ _ _ _ _ Rem.p0 (Take.nil _)) (need_Round_spec n (r12.set k.toNat (⟨(r12.getD k.toNat El.d).f, (r12.getD k.toNat El.d).t, r17, ((((r12.set k.toNat (⟨(r12.getD k.toNat El.d).f, (r12.getD k.toNat El.d).t, r17, (r12.getD k.toNat El.d).cap⟩ : Need)).getD k.toNat El.d).cap) + r21)⟩ : Need)) e27) (LendL.cons (Lend.refl _ _) (LendL.cons (Lend.all' At.p0 (by first | rfl | omega | (simp only [subl_length, List.length_set, List.length_append, List.length_cons, List.length_nil, List.length_replicate, row_len] <;> first | rfl | omega)) rfl) (LendL.nil))) rfl (need_Round_I (r24, r26))) (fun rr HH hp => ?_)
 obtain ⟨β25, rfl, rfl⟩ := hp
 refine GoO.pure (ps_move rfl rfl) ?_
 refine GoO.pure (ps_extract rfl rfl rfl) ?_
 refine GoO.pure (ps_extract rfl rfl rfl) ?_
 refine GoO.pure (ps_assign rfl rfl) ?_
 refine GoO.pure (ps_assign rfl rfl) ?_
 refine GoO.nil ?_
 refine GoK.code ?_
 refine GoC.seq ?_
 refine GoC.region ?_
 refine GoO.pure (ps_move rfl rfl) ?_
 refine GoO.pure (ps_eql rfl rfl rfl) ?_
 refine GoO.pure (ps_assign rfl rfl) ?_
 refine GoO.nil ?_
 refine GoK.code ?_
 obtain rfl := Option.some.inj H
 exact GoC.retL (ds := [.v (.bool (decide (r26 = 0)))]) Try.results9 (ResL.cons (ResD.tmp rfl) (ResL.nil)) (Take.nil _) ⟨rfl, rfl⟩
 replace H := ite_t h9 H
 refine GoO.guardF rfl rfl rfl rfl ?_
 refine GoO.guardF rfl rfl rfl rfl ?_
 refine GoO.guardF rfl rfl rfl rfl ?_
 refine GoO.pure (ps_pickT rfl rfl rfl) ?_
 refine GoO.nil ?_
 refine GoK.code ?_
 refine GoC.condT rfl ?_
 refine GoC.seq ?_
 refine GoC.region ?_
 refine GoO.pure (ps_assign rfl rfl) ?_
 refine GoO.nil ?_
 refine GoK.code ?_
 obtain rfl := Option.some.inj H
 exact GoC.retL (ds := [.v (.bool true)]) Try.results9 (ResL.cons (ResD.tmp rfl) (ResL.nil)) (Take.nil _) ⟨rfl, rfl⟩
 replace H := ite_t h8 H
 refine GoO.guardF rfl rfl rfl rfl ?_
 refine GoO.pure (ps_pickT rfl rfl rfl) ?_
 refine GoO.pure (ps_move rfl rfl) ?_
 refine GoO.guardF rfl rfl rfl rfl ?_
 refine GoO.guardF rfl rfl rfl rfl ?_
 refine GoO.guardF rfl rfl rfl rfl ?_
 refine GoO.guardF rfl rfl rfl rfl ?_
 refine GoO.pure (ps_pickT rfl rfl rfl) ?_
 refine GoO.nil ?_
 refine GoK.code ?_
 refine GoC.condT rfl ?_
 refine GoC.seq ?_
 refine GoC.region ?_
 refine GoO.pure (ps_assign rfl rfl) ?_
 refine GoO.nil ?_
 refine GoK.code ?_
 obtain rfl := Option.some.inj H
 exact GoC.retL (ds := [.v (.bool true)]) Try.results9 (ResL.cons (ResD.tmp rfl) (ResL.nil)) (Take.nil _) ⟨rfl, rfl⟩

end Go.Proofs.Ytdklbcgfjleagaa
