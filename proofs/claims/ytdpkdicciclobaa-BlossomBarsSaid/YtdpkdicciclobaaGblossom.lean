/- The functions blossom.Check, blossom.most, blossom.Most, blossom.ones, blossom.odd, blossom.Bar, told as plain functions, and that the code does as they say. -/
import Derived.Test.YtdpkdicciclobaaTys
import Derived.Test.YtdpkdicciclobaaDat
import Derived.Test.YtdpkdicciclobaaGgraph
namespace Go.Proofs.Ytdpkdicciclobaa
open Go Go.Proofs.Ytdpkdicciclobaa.Sx
set_option linter.unusedVariables false
set_option linter.unusedSimpArgs false
def blossom_Check_F (g : Graph) : Option (Int) :=
 (graph_CheckLong_F g).bind fun r2 =>
 if r2 ≠ 0 then
  some r2
 else
  if 9 < g.n then
   some 2
  else
   some 0
def blossom_Check_P (out : Int) (d : D) (H : List HL) : Prop := d = .v (.int .i64 out) ∧ H = []
theorem blossom_Check_I (out : Int) : IndepP (blossom_Check_P out) := IndepP.of (by rintro _ _ ⟨rfl, rfl⟩; exact ⟨inferInstance, inferInstance⟩)
set_option maxRecDepth 100000 in
set_option maxHeartbeats 4000000 in
theorem blossom_Check_spec (g : Graph) {out : Int} (H : blossom_Check_F g = some out) : Does Try.prog 59 [.ag 2 (nth [.v (.int .i64 g.n), slD g.as])] [] (blossom_Check_P out) := by
 unfold blossom_Check_F at H
 refine Does.intro Try.func59 rfl Try.ntmps59 rfl fun w0 I0 => ?_
 refine GoC.seq ?_
 refine GoC.region ?_
 refine GoO.effB (ef_boxAg rfl rfl) (fun β1 => ?_)
 refine GoO.pure (ps_assign rfl rfl) ?_
 refine GoO.nil ?_
 refine GoK.code ?_
 refine GoC.seq ?_
 refine GoC.seq ?_
 refine GoC.region ?_
 refine GoO.pure (ps_loadAg rfl At.p0 At.p0 Nat.zero_lt_one rfl rfl) ?_
 have hb := bind_l H; clear H
 obtain ⟨r2, e3, H⟩ := hb
 refine GoO.effC (ef_call rfl (Take.nil _) (Take.nil _) (graph_CheckLong_spec g e3) (LendL.cons (Lend.agA ⟨⟨trivial, Lend.refl _ _⟩, Lend.refl _ _⟩) (LendL.nil)) rfl (graph_CheckLong_I (r2))) (fun rr HH hp => ?_)
 obtain ⟨rfl, rfl⟩ := hp
 refine GoO.pure (ps_assign rfl rfl) ?_
 refine GoO.nil ?_
 refine GoK.code ?_
 refine GoC.seq ?_
 refine GoC.region ?_
 refine GoO.pure (ps_move rfl rfl) ?_
 refine GoO.pure (ps_neq rfl rfl rfl) ?_
 refine GoO.nil ?_
 refine GoK.code ?_
 refine GoC.condD rfl (fun h4 => ?_) (fun h4 => ?_)
 replace H := ite_t h4 H
 refine GoC.seq ?_
 refine GoC.region ?_
 refine GoO.pure (ps_move rfl rfl) ?_
 refine GoO.pure (ps_assign rfl rfl) ?_
 refine GoO.nil ?_
 refine GoK.code ?_
 obtain rfl := Option.some.inj H
 exact GoC.retL (ds := [.v (.int .i64 r2)]) Try.results59 (ResL.cons (ResD.tmp rfl) (ResL.nil)) (Take.nil _) ⟨rfl, rfl⟩
 replace H := ite_f h4 H
 refine GoC.skip ?_
 refine GoK.code ?_
 refine GoC.seq ?_
 refine GoC.seq ?_
 refine GoC.region ?_
 refine GoO.pure (ps_fieldAddr rfl rfl) ?_
 refine GoO.pure (ps_load rfl At.p0 At.p0 Nat.zero_lt_one rfl rfl) ?_
 refine GoO.pure (ps_gtr rfl rfl rfl) ?_
 refine GoO.nil ?_
 refine GoK.code ?_
 refine GoC.condD rfl (fun h5 => ?_) (fun h5 => ?_)
 replace H := ite_t h5 H
 refine GoC.seq ?_
 refine GoC.region ?_
 refine GoO.pure (ps_assign rfl rfl) ?_
 refine GoO.nil ?_
 refine GoK.code ?_
 obtain rfl := Option.some.inj H
 exact GoC.retL (ds := [.v (.int .i64 2)]) Try.results59 (ResL.cons (ResD.tmp rfl) (ResL.nil)) (Take.nil _) ⟨rfl, rfl⟩
 replace H := ite_f h5 H
 refine GoC.skip ?_
 refine GoK.code ?_
 refine GoC.seq ?_
 refine GoC.region ?_
 refine GoO.pure (ps_assign rfl rfl) ?_
 refine GoO.nil ?_
 refine GoK.code ?_
 obtain rfl := Option.some.inj H
 exact GoC.retL (ds := [.v (.int .i64 0)]) Try.results59 (ResL.cons (ResD.tmp rfl) (ResL.nil)) (Take.nil _) ⟨rfl, rfl⟩

def blossom_most_B2 (n6 : Nat) : Nat → Option (Ct (Nat) (Ct ((List Int) × Nat) ((List Int)))) := fun n15 =>
 if (bitsOf .and .i64 (Int.fdiv ((n6 : Nat) : Int) (2 ^ min n15 64)) 1) = 0 then
  ck (InI (((n15 : Nat) : Int) + 1)) <|
  some (.go (n15 + 1))
 else
  some (.brk n15)
def blossom_most_B3 (g : Graph) (n6 : Nat) (n19 : Nat) : Nat → (List Int) → Option ((List Int)) := fun k32 l27 =>
 ck (InI (((g.as.getD k32 El.d).f) + ((g.as.getD k32 El.d).t))) <|
 ck (InI ((((g.as.getD k32 El.d).f) + ((g.as.getD k32 El.d).t)) - ((n19 : Nat) : Int))) <|
 if ((g.as.getD k32 El.d).f) = ((n19 : Nat) : Int) then
  if ((((g.as.getD k32 El.d).f) + ((g.as.getD k32 El.d).t)) - ((n19 : Nat) : Int)) ≠ ((n19 : Nat) : Int) then
   ck (0 ≤ ((((g.as.getD k32 El.d).f) + ((g.as.getD k32 El.d).t)) - ((n19 : Nat) : Int))) <|
   if (bitsOf .and .i64 (Int.fdiv ((n6 : Nat) : Int) (2 ^ min (((((g.as.getD k32 El.d).f) + ((g.as.getD k32 El.d).t)) - ((n19 : Nat) : Int)).toNat) 64)) 1) = 1 then
    ck (n6 < l27.length) <|
    ck (0 ≤ (bitsOf .andNot .i64 ((n6 : Nat) : Int) (bitsOf .or .i64 (IntKind.i64.wrap (1 * 2 ^ min n19 64)) (IntKind.i64.wrap (1 * 2 ^ min (((((g.as.getD k32 El.d).f) + ((g.as.getD k32 El.d).t)) - ((n19 : Nat) : Int)).toNat) 64)))) ∧ (bitsOf .andNot .i64 ((n6 : Nat) : Int) (bitsOf .or .i64 (IntKind.i64.wrap (1 * 2 ^ min n19 64)) (IntKind.i64.wrap (1 * 2 ^ min (((((g.as.getD k32 El.d).f) + ((g.as.getD k32 El.d).t)) - ((n19 : Nat) : Int)).toNat) 64)))) < ((l27.length : Nat) : Int)) <|
    ck (InI (1 + (l27.getD ((bitsOf .andNot .i64 ((n6 : Nat) : Int) (bitsOf .or .i64 (IntKind.i64.wrap (1 * 2 ^ min n19 64)) (IntKind.i64.wrap (1 * 2 ^ min (((((g.as.getD k32 El.d).f) + ((g.as.getD k32 El.d).t)) - ((n19 : Nat) : Int)).toNat) 64)))).toNat) (0 : Int)))) <|
    some (l27.set n6 (max (l27.getD n6 (0 : Int)) (1 + (l27.getD ((bitsOf .andNot .i64 ((n6 : Nat) : Int) (bitsOf .or .i64 (IntKind.i64.wrap (1 * 2 ^ min n19 64)) (IntKind.i64.wrap (1 * 2 ^ min (((((g.as.getD k32 El.d).f) + ((g.as.getD k32 El.d).t)) - ((n19 : Nat) : Int)).toNat) 64)))).toNat) (0 : Int)))))
   else
    some l27
  else
   some l27
 else
  if ((g.as.getD k32 El.d).t) = ((n19 : Nat) : Int) then
   if ((((g.as.getD k32 El.d).f) + ((g.as.getD k32 El.d).t)) - ((n19 : Nat) : Int)) ≠ ((n19 : Nat) : Int) then
    ck (0 ≤ ((((g.as.getD k32 El.d).f) + ((g.as.getD k32 El.d).t)) - ((n19 : Nat) : Int))) <|
    if (bitsOf .and .i64 (Int.fdiv ((n6 : Nat) : Int) (2 ^ min (((((g.as.getD k32 El.d).f) + ((g.as.getD k32 El.d).t)) - ((n19 : Nat) : Int)).toNat) 64)) 1) = 1 then
     ck (n6 < l27.length) <|
     ck (0 ≤ (bitsOf .andNot .i64 ((n6 : Nat) : Int) (bitsOf .or .i64 (IntKind.i64.wrap (1 * 2 ^ min n19 64)) (IntKind.i64.wrap (1 * 2 ^ min (((((g.as.getD k32 El.d).f) + ((g.as.getD k32 El.d).t)) - ((n19 : Nat) : Int)).toNat) 64)))) ∧ (bitsOf .andNot .i64 ((n6 : Nat) : Int) (bitsOf .or .i64 (IntKind.i64.wrap (1 * 2 ^ min n19 64)) (IntKind.i64.wrap (1 * 2 ^ min (((((g.as.getD k32 El.d).f) + ((g.as.getD k32 El.d).t)) - ((n19 : Nat) : Int)).toNat) 64)))) < ((l27.length : Nat) : Int)) <|
     ck (InI (1 + (l27.getD ((bitsOf .andNot .i64 ((n6 : Nat) : Int) (bitsOf .or .i64 (IntKind.i64.wrap (1 * 2 ^ min n19 64)) (IntKind.i64.wrap (1 * 2 ^ min (((((g.as.getD k32 El.d).f) + ((g.as.getD k32 El.d).t)) - ((n19 : Nat) : Int)).toNat) 64)))).toNat) (0 : Int)))) <|
     some (l27.set n6 (max (l27.getD n6 (0 : Int)) (1 + (l27.getD ((bitsOf .andNot .i64 ((n6 : Nat) : Int) (bitsOf .or .i64 (IntKind.i64.wrap (1 * 2 ^ min n19 64)) (IntKind.i64.wrap (1 * 2 ^ min (((((g.as.getD k32 El.d).f) + ((g.as.getD k32 El.d).t)) - ((n19 : Nat) : Int)).toNat) 64)))).toNat) (0 : Int)))))
    else
     some l27
   else
    some l27
  else
   some l27
def blossom_most_B1 (g : Graph) : ((List Int) × Nat) → Option (Ct ((List Int) × Nat) ((List Int))) := fun (l5, n6) =>
 if ((n6 : Nat) : Int) < ((l5.length : Nat) : Int) then
  (loopC (blossom_most_B2 n6) 1000000 0).bind fun q => match q with
  | .go n19 =>
   ck (0 ≤ (bitsOf .andNot .i64 ((n6 : Nat) : Int) (IntKind.i64.wrap (1 * 2 ^ min n19 64))) ∧ (bitsOf .andNot .i64 ((n6 : Nat) : Int) (IntKind.i64.wrap (1 * 2 ^ min n19 64))) < ((l5.length : Nat) : Int)) <|
   ck (n6 < l5.length) <|
   (forN (blossom_most_B3 g n6 n19) g.as.length 0 (l5.set n6 (l5.getD ((bitsOf .andNot .i64 ((n6 : Nat) : Int) (IntKind.i64.wrap (1 * 2 ^ min n19 64))).toNat) (0 : Int)))).bind fun l31 =>
   ck (InI (((n6 : Nat) : Int) + 1)) <|
   some (.go (l31, (n6 + 1)))
  | .ret x => some x
 else
  some (.brk (l5, n6))
def blossom_most_F (g : Graph) : Option ((List Int)) :=
 ck (0 ≤ g.n) <|
 ck (0 ≤ (IntKind.i64.wrap (1 * 2 ^ min g.n.toNat 64)) ∧ (IntKind.i64.wrap (1 * 2 ^ min g.n.toNat 64)) ≤ 10000000000) <|
 (loopC (blossom_most_B1 g) 1000000 ((List.replicate ((IntKind.i64.wrap (1 * 2 ^ min g.n.toNat 64)).toNat) (0 : Int)), 1)).bind fun q => match q with
 | .go (l10, n11) =>
  some l10
 | .ret x => some x
def blossom_most_P (out : (List Int)) (d : D) (H : List HL) : Prop := ∃ β1 : BK, d = .own β1 1 0 out.length ∧ H = [.one β1 3 1 (row out)]
theorem blossom_most_I (out : (List Int)) : IndepP (blossom_most_P out) := IndepP.of (by rintro _ _ ⟨β1, rfl, rfl⟩; exact ⟨inferInstance, inferInstance⟩)
set_option maxRecDepth 100000 in
set_option maxHeartbeats 4000000 in
theorem blossom_most_spec (g : Graph) {out : (List Int)} (H : blossom_most_F g = some out) : Does Try.prog 60 [.ag 2 (nth [.v (.int .i64 g.n), slD g.as])] [] (blossom_most_P out) := by
 unfold blossom_most_F at H
 refine Does.intro Try.func60 rfl Try.ntmps60 rfl fun w0 I0 => ?_
 refine GoC.seq ?_
 refine GoC.region ?_
 refine GoO.effB (ef_boxAg rfl rfl) (fun β1 => ?_)
 refine GoO.pure (ps_assign rfl rfl) ?_
 refine GoO.nil ?_
 refine GoK.code ?_
 refine GoC.seq ?_
 refine GoC.region ?_
 refine GoO.pure (ps_fieldAddr rfl rfl) ?_
 refine GoO.pure (ps_load rfl At.p0 At.p0 Nat.zero_lt_one rfl rfl) ?_
 have c2 := ck_l H; replace H := ck_r H
 refine GoO.pure (ps_shl rfl rfl rfl c2) ?_
 have c4 := ck_l H; replace H := ck_r H
 refine GoO.effB (ef_makeZ rfl rfl c4 rfl rfl rfl) (fun β3 => ?_)
 refine GoO.le (Le.reH At.p0 (HLe.zeros (α := Int) ⟨trivial, DLe.refl _⟩)) ?_
 refine GoO.pure (ps_assign rfl rfl) ?_
 refine GoO.nil ?_
 refine GoK.code ?_
 refine GoC.seq ?_
 refine GoC.seq ?_
 refine GoC.region ?_
 refine GoO.pure (ps_assign rfl rfl) ?_
 refine GoO.nil ?_
 refine GoK.code ?_
 have hb := bind_l H; clear H
 obtain ⟨q9, hl53, HK7⟩ := hb
 refine GoC.blockJ [] [.one β1 33 2 (st1 (nth [.v (.int .i64 g.n), slD g.as]))] (fun v h => ∃ (l10 : (List Int)) (n11 : Nat), q9 = .go (l10, n11) ∧ v = [(3, .own β3 1 0 l10.length)] ∧ h = [.one β3 3 1 (row l10)]) ?_ ?_
 refine GoC.loopJ [(1, _)] [.one β1 33 2 (st1 (nth [.v (.int .i64 g.n), slD g.as]))] (fun mQ v h => ∃ (l5 : (List Int)) (n6 : Nat), loopC (blossom_most_B1 g) mQ (l5, n6) = some q9 ∧ v = [(3, .own β3 1 0 l5.length), (4, .v (.int .i64 ((n6 : Nat) : Int)))] ∧ h = [.one β3 3 1 (row l5)]) 1000000 ⟨_, _, hl53, rfl, rfl⟩ (EnvD.cons rfl (DLe.len (by first | rfl | omega | (simp only [row_len, gridC_len, rowO_len, List.length_replicate] <;> first | rfl | omega))) (EnvD.eq rfl (EnvD.eq rfl (EnvD.nil)))) (TkD.cons _ _ _ _ _ Rem.p0 (HLe.refl _) (TkD.cons _ _ _ _ _ Rem.p0 (HLe.st ⟨⟨trivial, DLe.refl _⟩, DLe.refl _⟩) (TkD.nil _))) ?_
 rintro m12 v h ⟨l5, n6, hF8, rfl, rfl⟩
 obtain ⟨m12', rfl⟩ | rfl : (∃ x, m12 = x + 1) ∨ m12 = 0 := by cases m12 <;> simp
 case inr => cases hF8
 have hb := bind_l hF8; clear hF8
 obtain ⟨qrm12, H, hF8⟩ := hb
 refine GoC.seq ?_
 refine GoC.seq ?_
 refine GoC.region ?_
 refine GoO.pure (ps_move rfl rfl) ?_
 refine GoO.pure (ps_move rfl rfl) ?_
 refine GoO.pure (ps_len rfl (by constructor) rfl) ?_
 refine GoO.lenLe (n := l5.length) (x := .tmp 14) rfl (by constructor) own_lenLe (fun ml13 => ?_)
 refine GoO.pure (ps_lss rfl rfl rfl) ?_
 refine GoO.nil ?_
 refine GoK.code ?_
 refine GoC.condD rfl (fun h14 => ?_) (fun h14 => ?_)
 replace H := ite_t h14 H
 refine GoC.skip ?_
 refine GoK.code ?_
 refine GoC.seq ?_
 refine GoC.block ?_
 refine GoC.seq ?_
 refine GoC.region ?_
 refine GoO.pure (ps_assign rfl rfl) ?_
 refine GoO.nil ?_
 refine GoK.code ?_
 refine GoC.seq ?_
 have hb := bind_l H; clear H
 obtain ⟨q18, hl23, HK16⟩ := hb
 refine GoC.blockJ [(1, .ptr β1 2 0 0), (3, .own β3 1 0 l5.length), (4, .v (.int .i64 ((n6 : Nat) : Int)))] [.one β3 3 1 (row l5), .one β1 33 2 (st1 (nth [.v (.int .i64 g.n), slD g.as]))] (fun v h => ∃ (n19 : Nat), q18 = .go n19 ∧ v = [(5, .v (.int .i64 ((n19 : Nat) : Int)))] ∧ h = []) ?_ ?_
 refine GoC.loopJ [(1, _), (3, _), (4, _)] [.one β3 3 1 (row l5), .one β1 33 2 (st1 (nth [.v (.int .i64 g.n), slD g.as]))] (fun mQ v h => ∃ (n15 : Nat), loopC (blossom_most_B2 n6) mQ n15 = some q18 ∧ v = [(5, .v (.int .i64 ((n15 : Nat) : Int)))] ∧ h = []) 1000000 ⟨_, hl23, rfl, rfl⟩ (EnvD.eq rfl (EnvD.eq rfl (EnvD.eq rfl (EnvD.eq rfl (EnvD.nil))))) (TkD.cons _ _ _ _ _ Rem.p0 (HLe.refl _) (TkD.cons _ _ _ _ _ Rem.p0 (HLe.st ⟨⟨trivial, DLe.refl _⟩, DLe.refl _⟩) (TkD.nil _))) ?_
 rintro m20 v h ⟨n15, hF17, rfl, rfl⟩
 obtain ⟨m20', rfl⟩ | rfl : (∃ x, m20 = x + 1) ∨ m20 = 0 := by cases m20 <;> simp
 case inr => cases hF17
 have hb := bind_l hF17; clear hF17
 obtain ⟨qrm20, H, hF17⟩ := hb
 refine GoC.seq ?_
 refine GoC.seq ?_
 refine GoC.region ?_
 refine GoO.pure (ps_move rfl rfl) ?_
 refine GoO.pure (ps_move rfl rfl) ?_
 refine GoO.pure (ps_shr rfl rfl rfl (by omega)) ?_
 refine GoO.pure (ps_and rfl rfl rfl) ?_
 refine GoO.pure (ps_eql rfl rfl rfl) ?_
 refine GoO.nil ?_
 refine GoK.code ?_
 refine GoC.condD rfl (fun h21 => ?_) (fun h21 => ?_)
 replace H := ite_t h21 H
 refine GoC.skip ?_
 refine GoK.code ?_
 refine GoC.block ?_
 refine GoC.region ?_
 refine GoO.pure (ps_move rfl rfl) ?_
 have c22 := ck_l H; replace H := ck_r H
 refine GoO.pure (ps_add rfl rfl rfl c22) ?_
 refine GoO.pure (ps_assign rfl rfl) ?_
 refine GoO.nil ?_
 refine GoK.blk ?_
 obtain rfl := Option.some.inj H
 exact GoK.againJ m20' (by omega) ⟨_, hF17, rfl, rfl⟩ (EnvD.eq rfl (EnvD.eq rfl (EnvD.eq rfl (EnvD.eq rfl (EnvD.nil))))) (TkD.cons _ _ _ _ _ Rem.p0 (HLe.refl _) (TkD.cons _ _ _ _ _ Rem.p0 (HLe.st ⟨⟨trivial, DLe.refl _⟩, DLe.refl _⟩) (TkD.nil _)))
 replace H := ite_f h21 H
 refine GoC.exit rfl ?_
 obtain rfl := Option.some.inj H
 obtain rfl := Option.some.inj hF17
 exact GoK.meet ⟨_, rfl, rfl, rfl⟩ (EnvD.eq rfl (EnvD.eq rfl (EnvD.eq rfl (EnvD.eq rfl (EnvD.nil))))) (TkD.cons _ _ _ _ _ Rem.p0 (HLe.refl _) (TkD.cons _ _ _ _ _ Rem.p0 (HLe.st ⟨⟨trivial, DLe.refl _⟩, DLe.refl _⟩) (TkD.nil _)))
 rintro v h ⟨n19, rfl, rfl, rfl⟩
 have H := HK16; clear HK16
 refine GoK.code ?_
 refine GoC.seq ?_
 refine GoC.region ?_
 refine GoO.pure (ps_move rfl rfl) ?_
 refine GoO.pure (ps_move rfl rfl) ?_
 refine GoO.pure (ps_move rfl rfl) ?_
 refine GoO.pure (ps_move rfl rfl) ?_
 refine GoO.pure (ps_move rfl rfl) ?_
 refine GoO.pure (ps_shl rfl rfl rfl (by omega)) ?_
 refine GoO.pure (ps_andNot rfl rfl rfl) ?_
 have c24 := ck_l H; replace H := ck_r H
 refine GoO.pure (ps_indexAddr0 rfl rfl c24 rfl) ?_
 refine GoO.pure (ps_load rfl At.p0 At.p0 (idx_lt c24) rfl rfl) ?_
 have c25 := ck_l H; replace H := ck_r H
 refine GoO.pure (ps_indexAddr0N rfl rfl c25 rfl) ?_
 refine GoO.eff1 (ef_store rfl rfl rfl At.p0 (upd_row1 (v := (l5.getD ((bitsOf .andNot .i64 ((n6 : Nat) : Int) (IntKind.i64.wrap (1 * 2 ^ min n19 64))).toNat) (0 : Int))) rfl) c25 rfl) ?_
 refine GoO.nil ?_
 refine GoK.code ?_
 refine GoC.seq ?_
 refine GoC.region ?_
 refine GoO.pure (ps_fieldAddr rfl rfl) ?_
 refine GoO.pure (ps_load rfl At.p1 At.p1 Nat.zero_lt_one rfl rfl) ?_
 refine GoO.pure (ps_len rfl (by constructor) rfl) ?_
 refine GoO.lenLe (n := g.as.length) (x := .tmp 37) rfl (by constructor) sl_lenLe (fun ml26 => ?_)
 refine GoO.pure (ps_move rfl rfl) ?_
 refine GoO.nil ?_
 refine GoK.code ?_
 have hb := bind_l H; clear H
 obtain ⟨l31, hl51, HK28⟩ := hb
 refine GoC.blockJ [(1, .ptr β1 2 0 0), (4, .v (.int .i64 ((n6 : Nat) : Int)))] [.one β1 33 2 (st1 (nth [.v (.int .i64 g.n), slD g.as]))] (fun v h => v = [(3, .own β3 1 0 l31.length)] ∧ h = [.one β3 3 1 (row l31)]) ?_ ?_
 refine GoC.loopJ [(1, _), (4, _), (5, _), (37, _), (38, _)] [.one β1 33 2 (st1 (nth [.v (.int .i64 g.n), slD g.as]))] (fun mQ v h => ∃ (k32 : Nat) (l27 : (List Int)), (k32 + mQ = g.as.length ∧ forN (blossom_most_B3 g n6 n19) mQ k32 l27 = some l31) ∧ v = [(39, .v (.int .i64 ((k32 : Nat) : Int))), (3, .own β3 1 0 l27.length)] ∧ h = [.one β3 3 1 (row l27)]) g.as.length ⟨_, _, ⟨by omega, hl51⟩, rfl, rfl⟩ (EnvD.eq rfl (EnvD.cons rfl (DLe.len (by first | rfl | omega | (simp only [row_len, gridC_len, rowO_len, List.length_set] <;> first | rfl | omega))) (EnvD.eq rfl (EnvD.eq rfl (EnvD.eq rfl (EnvD.eq rfl (EnvD.eq rfl (EnvD.nil)))))))) (TkD.cons _ _ _ _ _ Rem.p0 (HLe.refl _) (TkD.cons _ _ _ _ _ Rem.p0 (HLe.st ⟨⟨trivial, DLe.refl _⟩, DLe.refl _⟩) (TkD.nil _))) ?_
 rintro m33 v h ⟨k32, l27, ⟨hkk32, hF29⟩, rfl, rfl⟩
 refine GoC.seq ?_
 refine GoC.region ?_
 refine GoO.pure (ps_lss rfl rfl rfl) ?_
 refine GoO.nil ?_
 refine GoK.code ?_
 refine GoC.seq ?_
 refine GoC.condD rfl (fun (hk32 : (k32 : Int) < ((g.as.length : Nat) : Int)) => ?_) (fun (hk32 : ¬ (k32 : Int) < ((g.as.length : Nat) : Int)) => ?_)
 obtain ⟨m33', rfl⟩ : ∃ x, m33 = x + 1 := ⟨m33 - 1, by omega⟩
 have hb := bind_l hF29; clear hF29
 obtain ⟨qrm33, H, hF29⟩ := hb
 have hnk32 : k32 < g.as.length := by omega
 have hIk32 : InI ((k32 : Int) + 1) := inI_len hk32 ml26
 refine GoC.skip ?_
 refine GoK.code ?_
 refine GoC.seq ?_
 refine GoC.block ?_
 refine GoC.seq ?_
 refine GoC.region ?_
 refine GoO.pure (ps_indexAddrRN rfl rfl hnk32 rfl) ?_
 refine GoO.pure (ps_loadAgR rfl hnk32 rfl rfl) ?_
 refine GoO.effB (ef_alloc rfl) (fun β34 => ?_)
 refine GoO.eff1 (ef_storeAg rfl rfl At.p0 upd_whole Nat.zero_lt_one rfl) ?_
 refine GoO.nil ?_
 refine GoK.code ?_
 refine GoC.seq ?_
 refine GoC.region ?_
 refine GoO.pure (ps_fieldAddr rfl rfl) ?_
 refine GoO.pure (ps_load rfl At.p0 At.p0 Nat.zero_lt_one rfl rfl) ?_
 refine GoO.pure (ps_fieldAddr rfl rfl) ?_
 refine GoO.pure (ps_load rfl At.p0 At.p0 Nat.zero_lt_one rfl rfl) ?_
 have c35 := ck_l H; replace H := ck_r H
 refine GoO.pure (ps_add rfl rfl rfl c35) ?_
 refine GoO.pure (ps_move rfl rfl) ?_
 have c36 := ck_l H; replace H := ck_r H
 refine GoO.pure (ps_sub rfl rfl rfl c36) ?_
 refine GoO.pure (ps_assign rfl rfl) ?_
 refine GoO.nil ?_
 refine GoK.code ?_
 refine GoC.seq ?_
 refine GoC.region ?_
 refine GoO.pure (ps_fieldAddr rfl rfl) ?_
 refine GoO.pure (ps_load rfl At.p0 At.p0 Nat.zero_lt_one rfl rfl) ?_
 refine GoO.pure (ps_move rfl rfl) ?_
 refine GoO.pure (ps_eql rfl rfl rfl) ?_
 refine GoO.pure (ps_move rfl rfl) ?_
 refine GoO.guardE rfl rfl rfl rfl (fun h37 => ?_) (fun h37 => ?_)
 replace H := ite_f h37 H
 refine GoO.pure (ps_fieldAddr rfl rfl) ?_
 refine GoO.guardT rfl rfl rfl ?_
 refine GoO.pure (ps_load rfl At.p0 At.p0 Nat.zero_lt_one rfl rfl) ?_
 refine GoO.guardT rfl rfl rfl ?_
 refine GoO.pure (ps_move rfl rfl) ?_
 refine GoO.guardT rfl rfl rfl ?_
 refine GoO.pure (ps_eql rfl rfl rfl) ?_
 refine GoO.pure (ps_pickF rfl rfl rfl) ?_
 refine GoO.pure (ps_move rfl rfl) ?_
 refine GoO.guardD rfl rfl rfl rfl (fun h38 => ?_) (fun h38 => ?_)
 replace H := ite_t h38 H
 refine GoO.pure (ps_move rfl rfl) ?_
 refine GoO.guardT rfl rfl rfl ?_
 refine GoO.pure (ps_move rfl rfl) ?_
 refine GoO.guardT rfl rfl rfl ?_
 refine GoO.pure (ps_neq rfl rfl rfl) ?_
 refine GoO.pure (ps_pickT rfl rfl rfl) ?_
 refine GoO.pure (ps_move rfl rfl) ?_
 refine GoO.guardD rfl rfl rfl rfl (fun h39 => ?_) (fun h39 => ?_)
 replace H := ite_t h39 H
 refine GoO.pure (ps_move rfl rfl) ?_
 refine GoO.guardT rfl rfl rfl ?_
 refine GoO.pure (ps_move rfl rfl) ?_
 refine GoO.guardT rfl rfl rfl ?_
 have c40 := ck_l H; replace H := ck_r H
 refine GoO.pure (ps_shr rfl rfl rfl c40) ?_
 refine GoO.guardT rfl rfl rfl ?_
 refine GoO.pure (ps_and rfl rfl rfl) ?_
 refine GoO.guardT rfl rfl rfl ?_
 refine GoO.pure (ps_eql rfl rfl rfl) ?_
 refine GoO.pure (ps_pickT rfl rfl rfl) ?_
 refine GoO.nil ?_
 refine GoK.code ?_
 refine GoC.condD rfl (fun h41 => ?_) (fun h41 => ?_)
 replace H := ite_t h41 H
 refine GoC.drawP (.q 0 (.q 1 (.q 2 (.q 3 (.q 4 (.q 6 (.q 7 (.q 8 (.q 9 (.q 10 (.q 11 (.q 12 (.q 13 (.q 14 (.two 5 15 (.one 15 (.q 16 (.q 17 (.q 18 (.one 19 (.done)))))) (.q 16 (.one 5 (.q 17 (.q 18 (.one 19 (.done))))))))))))))))))))) [] follows (by kernel_rfl) (Take.nil _) ?_
 refine GoP.qN rfl (ps_move rfl rfl) ?_
 refine GoP.qN rfl (ps_move rfl rfl) ?_
 refine GoP.qN rfl (ps_move rfl rfl) ?_
 refine GoP.qN rfl (ps_move rfl rfl) ?_
 have c42 := ck_l H; replace H := ck_r H
 refine GoP.qN rfl (ps_indexAddr0N rfl rfl c42 rfl) ?_
 refine GoP.qN rfl (ps_move rfl rfl) ?_
 refine GoP.qN rfl (ps_move rfl rfl) ?_
 refine GoP.qN rfl (ps_move rfl rfl) ?_
 refine GoP.qN rfl (ps_shl rfl rfl rfl (by omega)) ?_
 refine GoP.qN rfl (ps_move rfl rfl) ?_
 refine GoP.qN rfl (ps_shl rfl rfl rfl c40) ?_
 refine GoP.qN rfl (ps_or rfl rfl rfl) ?_
 refine GoP.qN rfl (ps_andNot rfl rfl rfl) ?_
 have c43 := ck_l H; replace H := ck_r H
 refine GoP.qN rfl (ps_indexAddr0 rfl rfl c43 rfl) ?_
 have c44 := ck_l H; replace H := ck_r H
 apply GoP.fork0
 exact rfl
 exact rfl
 exact trivial
 exact trivial
 exact Eff.pure (H1 := [.one β34 39 3 (st1 (nth [.v (.int .i64 ((g.as.getD k32 El.d).f)), .v (.int .i64 ((g.as.getD k32 El.d).t)), .v (.int .i64 ((g.as.getD k32 El.d).c))])), .one β3 3 1 (row l27), .one β1 33 2 (st1 (nth [.v (.int .i64 g.n), slD g.as]))]) (ps_load rfl At.p1 At.p1 c42 rfl rfl)
 exact Eff.pure (H1 := [.one β34 39 3 (st1 (nth [.v (.int .i64 ((g.as.getD k32 El.d).f)), .v (.int .i64 ((g.as.getD k32 El.d).t)), .v (.int .i64 ((g.as.getD k32 El.d).c))])), .one β3 3 1 (row l27), .one β1 33 2 (st1 (nth [.v (.int .i64 g.n), slD g.as]))]) (ps_load rfl At.p1 At.p1 (idx_lt c43) rfl rfl)
 exact (Take.nil _)
 exact (Take.nil _)
 intro hQ
 rintro _ rfl
 refine GoP.oneN rfl (ps_load rfl At.p1 At.p1 (idx_lt c43) rfl rfl) (Take.nil _) ?_
 refine GoP.qN rfl (ps_add rfl rfl rfl c44) ?_
 refine GoP.qN rfl (ps_max rfl rfl rfl) ?_
 refine GoP.qN rfl (ps_indexAddr0N rfl rfl c42 rfl) ?_
 refine GoP.one1 rfl trivial (ef_store rfl rfl rfl At.p1 (upd_row1 (v := (max (l27.getD n6 (0 : Int)) (1 + (l27.getD ((bitsOf .andNot .i64 ((n6 : Nat) : Int) (bitsOf .or .i64 (IntKind.i64.wrap (1 * 2 ^ min n19 64)) (IntKind.i64.wrap (1 * 2 ^ min (((((g.as.getD k32 El.d).f) + ((g.as.getD k32 El.d).t)) - ((n19 : Nat) : Int)).toNat) 64)))).toNat) (0 : Int))))) rfl) c42 rfl) (Take.cons _ _ _ _ _ Rem.p1 (Take.nil _)) ?_
 exact GoP.done (hQ)
 intro hQ
 rintro _ rfl
 refine GoP.qN rfl (ps_add rfl rfl rfl c44) ?_
 refine GoP.oneN rfl (ps_load rfl At.p1 At.p1 c42 rfl rfl) (Take.nil _) ?_
 refine GoP.qN rfl (ps_max rfl rfl rfl) ?_
 refine GoP.qN rfl (ps_indexAddr0N rfl rfl c42 rfl) ?_
 refine GoP.one1 rfl trivial (ef_store rfl rfl rfl At.p1 (upd_row1 (v := (max (l27.getD n6 (0 : Int)) (1 + (l27.getD ((bitsOf .andNot .i64 ((n6 : Nat) : Int) (bitsOf .or .i64 (IntKind.i64.wrap (1 * 2 ^ min n19 64)) (IntKind.i64.wrap (1 * 2 ^ min (((((g.as.getD k32 El.d).f) + ((g.as.getD k32 El.d).t)) - ((n19 : Nat) : Int)).toNat) 64)))).toNat) (0 : Int))))) rfl) c42 rfl) (Take.cons _ _ _ _ _ Rem.p1 (Take.nil _)) ?_
 refine GoP.done (GoK.le ?_ (hQ))
 refine Le.ofDW ?_ (TkD.cons _ _ _ _ _ Rem.p0 (HLe.refl _) (TkD.cons _ _ _ _ _ Rem.p0 (HLe.refl _) (TkD.cons _ _ _ _ _ Rem.p0 (HLe.refl _) (TkD.nil _))))
 repeat (first | exact EnvLeW.nil | refine EnvLeW.cons rfl ?_ | refine EnvLeW.skip rfl ?_)
 refine GoK.blk ?_
 refine GoK.code ?_
 refine GoC.region ?_
 refine GoO.pure (ps_add rfl rfl rfl hIk32) ?_
 refine GoO.pure (ps_move rfl rfl) ?_
 refine GoO.nil ?_
 obtain rfl := Option.some.inj H
 exact GoK.againJ m33' (by omega) ⟨_, _, ⟨by omega, hF29⟩, rfl, rfl⟩ (EnvD.eq rfl (EnvD.cons rfl (DLe.len (by first | rfl | omega | (simp only [row_len, gridC_len, rowO_len, List.length_set] <;> first | rfl | omega))) (EnvD.eq rfl (EnvD.eq rfl (EnvD.eq rfl (EnvD.eq rfl (EnvD.eq rfl (EnvD.nil)))))))) (TkD.cons _ _ _ _ _ Rem.p1 (HLe.refl _) (TkD.cons _ _ _ _ _ Rem.p1 (HLe.st ⟨⟨trivial, DLe.refl _⟩, DLe.refl _⟩) (TkD.nil _)))
 replace H := ite_f h41 H
 refine GoC.skip ?_
 refine GoK.blk ?_
 refine GoK.code ?_
 refine GoC.region ?_
 refine GoO.pure (ps_add rfl rfl rfl hIk32) ?_
 refine GoO.pure (ps_move rfl rfl) ?_
 refine GoO.nil ?_
 obtain rfl := Option.some.inj H
 exact GoK.againJ m33' (by omega) ⟨_, _, ⟨by omega, hF29⟩, rfl, rfl⟩ (EnvD.eq rfl (EnvD.eq rfl (EnvD.eq rfl (EnvD.eq rfl (EnvD.eq rfl (EnvD.eq rfl (EnvD.eq rfl (EnvD.nil)))))))) (TkD.cons _ _ _ _ _ Rem.p1 (HLe.refl _) (TkD.cons _ _ _ _ _ Rem.p1 (HLe.st ⟨⟨trivial, DLe.refl _⟩, DLe.refl _⟩) (TkD.nil _)))
 replace H := ite_f h39 H
 refine GoO.guardF rfl rfl rfl rfl ?_
 refine GoO.guardF rfl rfl rfl rfl ?_
 refine GoO.guardF rfl rfl rfl rfl ?_
 refine GoO.guardF rfl rfl rfl rfl ?_
 refine GoO.pure (ps_pickF rfl rfl rfl) ?_
 refine GoO.nil ?_
 refine GoK.code ?_
 refine GoC.condF rfl ?_
 refine GoC.skip ?_
 refine GoK.blk ?_
 refine GoK.code ?_
 refine GoC.region ?_
 refine GoO.pure (ps_add rfl rfl rfl hIk32) ?_
 refine GoO.pure (ps_move rfl rfl) ?_
 refine GoO.nil ?_
 obtain rfl := Option.some.inj H
 exact GoK.againJ m33' (by omega) ⟨_, _, ⟨by omega, hF29⟩, rfl, rfl⟩ (EnvD.eq rfl (EnvD.eq rfl (EnvD.eq rfl (EnvD.eq rfl (EnvD.eq rfl (EnvD.eq rfl (EnvD.eq rfl (EnvD.nil)))))))) (TkD.cons _ _ _ _ _ Rem.p1 (HLe.refl _) (TkD.cons _ _ _ _ _ Rem.p1 (HLe.st ⟨⟨trivial, DLe.refl _⟩, DLe.refl _⟩) (TkD.nil _)))
 replace H := ite_f h38 H
 refine GoO.guardF rfl rfl rfl rfl ?_
 refine GoO.guardF rfl rfl rfl rfl ?_
 refine GoO.pure (ps_pickF rfl rfl rfl) ?_
 refine GoO.pure (ps_move rfl rfl) ?_
 refine GoO.guardF rfl rfl rfl rfl ?_
 refine GoO.guardF rfl rfl rfl rfl ?_
 refine GoO.guardF rfl rfl rfl rfl ?_
 refine GoO.guardF rfl rfl rfl rfl ?_
 refine GoO.guardF rfl rfl rfl rfl ?_
 refine GoO.pure (ps_pickF rfl rfl rfl) ?_
 refine GoO.nil ?_
 refine GoK.code ?_
 refine GoC.condF rfl ?_
 refine GoC.skip ?_
 refine GoK.blk ?_
 refine GoK.code ?_
 refine GoC.region ?_
 refine GoO.pure (ps_add rfl rfl rfl hIk32) ?_
 refine GoO.pure (ps_move rfl rfl) ?_
 refine GoO.nil ?_
 obtain rfl := Option.some.inj H
 exact GoK.againJ m33' (by omega) ⟨_, _, ⟨by omega, hF29⟩, rfl, rfl⟩ (EnvD.eq rfl (EnvD.eq rfl (EnvD.eq rfl (EnvD.eq rfl (EnvD.eq rfl (EnvD.eq rfl (EnvD.eq rfl (EnvD.nil)))))))) (TkD.cons _ _ _ _ _ Rem.p1 (HLe.refl _) (TkD.cons _ _ _ _ _ Rem.p1 (HLe.st ⟨⟨trivial, DLe.refl _⟩, DLe.refl _⟩) (TkD.nil _)))
 replace H := ite_t h37 H
 refine GoO.guardF rfl rfl rfl rfl ?_
 refine GoO.guardF rfl rfl rfl rfl ?_
 refine GoO.guardF rfl rfl rfl rfl ?_
 refine GoO.pure (ps_pickT rfl rfl rfl) ?_
 refine GoO.pure (ps_move rfl rfl) ?_
 refine GoO.guardT rfl rfl rfl ?_
 refine GoO.pure (ps_move rfl rfl) ?_
 refine GoO.guardT rfl rfl rfl ?_
 refine GoO.pure (ps_move rfl rfl) ?_
 refine GoO.guardT rfl rfl rfl ?_
 refine GoO.pure (ps_neq rfl rfl rfl) ?_
 refine GoO.pure (ps_pickT rfl rfl rfl) ?_
 refine GoO.pure (ps_move rfl rfl) ?_
 refine GoO.guardD rfl rfl rfl rfl (fun h45 => ?_) (fun h45 => ?_)
 replace H := ite_t h45 H
 refine GoO.pure (ps_move rfl rfl) ?_
 refine GoO.guardT rfl rfl rfl ?_
 refine GoO.pure (ps_move rfl rfl) ?_
 refine GoO.guardT rfl rfl rfl ?_
 have c46 := ck_l H; replace H := ck_r H
 refine GoO.pure (ps_shr rfl rfl rfl c46) ?_
 refine GoO.guardT rfl rfl rfl ?_
 refine GoO.pure (ps_and rfl rfl rfl) ?_
 refine GoO.guardT rfl rfl rfl ?_
 refine GoO.pure (ps_eql rfl rfl rfl) ?_
 refine GoO.pure (ps_pickT rfl rfl rfl) ?_
 refine GoO.nil ?_
 refine GoK.code ?_
 refine GoC.condD rfl (fun h47 => ?_) (fun h47 => ?_)
 replace H := ite_t h47 H
 refine GoC.drawP (.q 0 (.q 1 (.q 2 (.q 3 (.q 4 (.q 6 (.q 7 (.q 8 (.q 9 (.q 10 (.q 11 (.q 12 (.q 13 (.q 14 (.two 5 15 (.one 15 (.q 16 (.q 17 (.q 18 (.one 19 (.done)))))) (.q 16 (.one 5 (.q 17 (.q 18 (.one 19 (.done))))))))))))))))))))) [] follows (by kernel_rfl) (Take.nil _) ?_
 refine GoP.qN rfl (ps_move rfl rfl) ?_
 refine GoP.qN rfl (ps_move rfl rfl) ?_
 refine GoP.qN rfl (ps_move rfl rfl) ?_
 refine GoP.qN rfl (ps_move rfl rfl) ?_
 have c48 := ck_l H; replace H := ck_r H
 refine GoP.qN rfl (ps_indexAddr0N rfl rfl c48 rfl) ?_
 refine GoP.qN rfl (ps_move rfl rfl) ?_
 refine GoP.qN rfl (ps_move rfl rfl) ?_
 refine GoP.qN rfl (ps_move rfl rfl) ?_
 refine GoP.qN rfl (ps_shl rfl rfl rfl (by omega)) ?_
 refine GoP.qN rfl (ps_move rfl rfl) ?_
 refine GoP.qN rfl (ps_shl rfl rfl rfl c46) ?_
 refine GoP.qN rfl (ps_or rfl rfl rfl) ?_
 refine GoP.qN rfl (ps_andNot rfl rfl rfl) ?_
 have c49 := ck_l H; replace H := ck_r H
 refine GoP.qN rfl (ps_indexAddr0 rfl rfl c49 rfl) ?_
 have c50 := ck_l H; replace H := ck_r H
 apply GoP.fork0
 exact rfl
 exact rfl
 exact trivial
 exact trivial
 exact Eff.pure (H1 := [.one β34 39 3 (st1 (nth [.v (.int .i64 ((g.as.getD k32 El.d).f)), .v (.int .i64 ((g.as.getD k32 El.d).t)), .v (.int .i64 ((g.as.getD k32 El.d).c))])), .one β3 3 1 (row l27), .one β1 33 2 (st1 (nth [.v (.int .i64 g.n), slD g.as]))]) (ps_load rfl At.p1 At.p1 c48 rfl rfl)
 exact Eff.pure (H1 := [.one β34 39 3 (st1 (nth [.v (.int .i64 ((g.as.getD k32 El.d).f)), .v (.int .i64 ((g.as.getD k32 El.d).t)), .v (.int .i64 ((g.as.getD k32 El.d).c))])), .one β3 3 1 (row l27), .one β1 33 2 (st1 (nth [.v (.int .i64 g.n), slD g.as]))]) (ps_load rfl At.p1 At.p1 (idx_lt c49) rfl rfl)
 exact (Take.nil _)
 exact (Take.nil _)
 intro hQ
 rintro _ rfl
 refine GoP.oneN rfl (ps_load rfl At.p1 At.p1 (idx_lt c49) rfl rfl) (Take.nil _) ?_
 refine GoP.qN rfl (ps_add rfl rfl rfl c50) ?_
 refine GoP.qN rfl (ps_max rfl rfl rfl) ?_
 refine GoP.qN rfl (ps_indexAddr0N rfl rfl c48 rfl) ?_
 refine GoP.one1 rfl trivial (ef_store rfl rfl rfl At.p1 (upd_row1 (v := (max (l27.getD n6 (0 : Int)) (1 + (l27.getD ((bitsOf .andNot .i64 ((n6 : Nat) : Int) (bitsOf .or .i64 (IntKind.i64.wrap (1 * 2 ^ min n19 64)) (IntKind.i64.wrap (1 * 2 ^ min (((((g.as.getD k32 El.d).f) + ((g.as.getD k32 El.d).t)) - ((n19 : Nat) : Int)).toNat) 64)))).toNat) (0 : Int))))) rfl) c48 rfl) (Take.cons _ _ _ _ _ Rem.p1 (Take.nil _)) ?_
 exact GoP.done (hQ)
 intro hQ
 rintro _ rfl
 refine GoP.qN rfl (ps_add rfl rfl rfl c50) ?_
 refine GoP.oneN rfl (ps_load rfl At.p1 At.p1 c48 rfl rfl) (Take.nil _) ?_
 refine GoP.qN rfl (ps_max rfl rfl rfl) ?_
 refine GoP.qN rfl (ps_indexAddr0N rfl rfl c48 rfl) ?_
 refine GoP.one1 rfl trivial (ef_store rfl rfl rfl At.p1 (upd_row1 (v := (max (l27.getD n6 (0 : Int)) (1 + (l27.getD ((bitsOf .andNot .i64 ((n6 : Nat) : Int) (bitsOf .or .i64 (IntKind.i64.wrap (1 * 2 ^ min n19 64)) (IntKind.i64.wrap (1 * 2 ^ min (((((g.as.getD k32 El.d).f) + ((g.as.getD k32 El.d).t)) - ((n19 : Nat) : Int)).toNat) 64)))).toNat) (0 : Int))))) rfl) c48 rfl) (Take.cons _ _ _ _ _ Rem.p1 (Take.nil _)) ?_
 refine GoP.done (GoK.le ?_ (hQ))
 refine Le.ofDW ?_ (TkD.cons _ _ _ _ _ Rem.p0 (HLe.refl _) (TkD.cons _ _ _ _ _ Rem.p0 (HLe.refl _) (TkD.cons _ _ _ _ _ Rem.p0 (HLe.refl _) (TkD.nil _))))
 repeat (first | exact EnvLeW.nil | refine EnvLeW.cons rfl ?_ | refine EnvLeW.skip rfl ?_)
 refine GoK.blk ?_
 refine GoK.code ?_
 refine GoC.region ?_
 refine GoO.pure (ps_add rfl rfl rfl hIk32) ?_
 refine GoO.pure (ps_move rfl rfl) ?_
 refine GoO.nil ?_
 obtain rfl := Option.some.inj H
 exact GoK.againJ m33' (by omega) ⟨_, _, ⟨by omega, hF29⟩, rfl, rfl⟩ (EnvD.eq rfl (EnvD.cons rfl (DLe.len (by first | rfl | omega | (simp only [row_len, gridC_len, rowO_len, List.length_set] <;> first | rfl | omega))) (EnvD.eq rfl (EnvD.eq rfl (EnvD.eq rfl (EnvD.eq rfl (EnvD.eq rfl (EnvD.nil)))))))) (TkD.cons _ _ _ _ _ Rem.p1 (HLe.refl _) (TkD.cons _ _ _ _ _ Rem.p1 (HLe.st ⟨⟨trivial, DLe.refl _⟩, DLe.refl _⟩) (TkD.nil _)))
 replace H := ite_f h47 H
 refine GoC.skip ?_
 refine GoK.blk ?_
 refine GoK.code ?_
 refine GoC.region ?_
 refine GoO.pure (ps_add rfl rfl rfl hIk32) ?_
 refine GoO.pure (ps_move rfl rfl) ?_
 refine GoO.nil ?_
 obtain rfl := Option.some.inj H
 exact GoK.againJ m33' (by omega) ⟨_, _, ⟨by omega, hF29⟩, rfl, rfl⟩ (EnvD.eq rfl (EnvD.eq rfl (EnvD.eq rfl (EnvD.eq rfl (EnvD.eq rfl (EnvD.eq rfl (EnvD.eq rfl (EnvD.nil)))))))) (TkD.cons _ _ _ _ _ Rem.p1 (HLe.refl _) (TkD.cons _ _ _ _ _ Rem.p1 (HLe.st ⟨⟨trivial, DLe.refl _⟩, DLe.refl _⟩) (TkD.nil _)))
 replace H := ite_f h45 H
 refine GoO.guardF rfl rfl rfl rfl ?_
 refine GoO.guardF rfl rfl rfl rfl ?_
 refine GoO.guardF rfl rfl rfl rfl ?_
 refine GoO.guardF rfl rfl rfl rfl ?_
 refine GoO.pure (ps_pickF rfl rfl rfl) ?_
 refine GoO.nil ?_
 refine GoK.code ?_
 refine GoC.condF rfl ?_
 refine GoC.skip ?_
 refine GoK.blk ?_
 refine GoK.code ?_
 refine GoC.region ?_
 refine GoO.pure (ps_add rfl rfl rfl hIk32) ?_
 refine GoO.pure (ps_move rfl rfl) ?_
 refine GoO.nil ?_
 obtain rfl := Option.some.inj H
 exact GoK.againJ m33' (by omega) ⟨_, _, ⟨by omega, hF29⟩, rfl, rfl⟩ (EnvD.eq rfl (EnvD.eq rfl (EnvD.eq rfl (EnvD.eq rfl (EnvD.eq rfl (EnvD.eq rfl (EnvD.eq rfl (EnvD.nil)))))))) (TkD.cons _ _ _ _ _ Rem.p1 (HLe.refl _) (TkD.cons _ _ _ _ _ Rem.p1 (HLe.st ⟨⟨trivial, DLe.refl _⟩, DLe.refl _⟩) (TkD.nil _)))
 obtain rfl : m33 = 0 := by omega
 refine GoC.exit rfl ?_
 cases hF29
 exact GoK.meet ⟨rfl, rfl⟩ (EnvD.cons rfl (DLe.len (by first | rfl | omega | (simp only [row_len, gridC_len, rowO_len] <;> first | rfl | omega))) (EnvD.eq rfl (EnvD.eq rfl (EnvD.nil)))) (TkD.cons _ _ _ _ _ Rem.p0 (HLe.refl _) (TkD.cons _ _ _ _ _ Rem.p0 (HLe.st ⟨⟨trivial, DLe.refl _⟩, DLe.refl _⟩) (TkD.nil _)))
 rintro v h ⟨rfl, rfl⟩
 have H := HK28; clear HK28
 refine GoK.blk ?_
 refine GoK.code ?_
 refine GoC.region ?_
 refine GoO.pure (ps_move rfl rfl) ?_
 have c52 := ck_l H; replace H := ck_r H
 refine GoO.pure (ps_add rfl rfl rfl c52) ?_
 refine GoO.pure (ps_assign rfl rfl) ?_
 refine GoO.nil ?_
 obtain rfl := Option.some.inj H
 exact GoK.againJ m12' (by omega) ⟨_, _, hF8, rfl, rfl⟩ (EnvD.cons rfl (DLe.len (by first | rfl | omega | (simp only [row_len, gridC_len, rowO_len] <;> first | rfl | omega))) (EnvD.eq rfl (EnvD.eq rfl (EnvD.nil)))) (TkD.cons _ _ _ _ _ Rem.p0 (HLe.refl _) (TkD.cons _ _ _ _ _ Rem.p0 (HLe.st ⟨⟨trivial, DLe.refl _⟩, DLe.refl _⟩) (TkD.nil _)))
 replace H := ite_f h14 H
 refine GoC.exit rfl ?_
 obtain rfl := Option.some.inj H
 obtain rfl := Option.some.inj hF8
 exact GoK.meet ⟨_, _, rfl, rfl, rfl⟩ (EnvD.cons rfl (DLe.len (by first | rfl | omega | (simp only [row_len, gridC_len, rowO_len] <;> first | rfl | omega))) (EnvD.nil)) (TkD.cons _ _ _ _ _ Rem.p0 (HLe.refl _) (TkD.cons _ _ _ _ _ Rem.p0 (HLe.st ⟨⟨trivial, DLe.refl _⟩, DLe.refl _⟩) (TkD.nil _)))
 rintro v h ⟨l10, n11, rfl, rfl, rfl⟩
 have H := HK7; clear HK7
 refine GoK.code ?_
 refine GoC.seq ?_
 refine GoC.region ?_
 refine GoO.pure (ps_move rfl rfl) ?_
 refine GoO.pure (ps_assign rfl rfl) ?_
 refine GoO.nil ?_
 refine GoK.code ?_
 obtain rfl := Option.some.inj H
 exact GoC.retL (ds := [.own β3 1 0 l10.length]) Try.results60 (ResL.cons (ResD.tmp rfl) (ResL.nil)) (Take.cons _ _ _ _ _ Rem.p0 (Take.nil _)) ⟨β3, rfl, rfl⟩

def blossom_Most_B1 (g : Graph) (r5 : (List Int)) : Nat → ((List Int) × Int) → Option ((List Int) × Int) := fun k19 (l12, x13) =>
 ck (0 ≤ ((g.as.getD k19 El.d).f)) <|
 ck (0 ≤ ((g.as.getD k19 El.d).t)) <|
 if ((g.as.getD k19 El.d).f) ≠ ((g.as.getD k19 El.d).t) then
  if (bitsOf .and .i64 (Int.fdiv x13 (2 ^ min (((g.as.getD k19 El.d).f).toNat) 64)) 1) = 1 then
   if (bitsOf .and .i64 (Int.fdiv x13 (2 ^ min (((g.as.getD k19 El.d).t).toNat) 64)) 1) = 1 then
    ck (0 ≤ x13 ∧ x13 < ((r5.length : Nat) : Int)) <|
    ck (0 ≤ (bitsOf .andNot .i64 x13 (bitsOf .or .i64 (IntKind.i64.wrap (1 * 2 ^ min (((g.as.getD k19 El.d).f).toNat) 64)) (IntKind.i64.wrap (1 * 2 ^ min (((g.as.getD k19 El.d).t).toNat) 64)))) ∧ (bitsOf .andNot .i64 x13 (bitsOf .or .i64 (IntKind.i64.wrap (1 * 2 ^ min (((g.as.getD k19 El.d).f).toNat) 64)) (IntKind.i64.wrap (1 * 2 ^ min (((g.as.getD k19 El.d).t).toNat) 64)))) < ((r5.length : Nat) : Int)) <|
    ck (InI (1 + (r5.getD ((bitsOf .andNot .i64 x13 (bitsOf .or .i64 (IntKind.i64.wrap (1 * 2 ^ min (((g.as.getD k19 El.d).f).toNat) 64)) (IntKind.i64.wrap (1 * 2 ^ min (((g.as.getD k19 El.d).t).toNat) 64)))).toNat) (0 : Int)))) <|
    if (r5.getD x13.toNat (0 : Int)) = (1 + (r5.getD ((bitsOf .andNot .i64 x13 (bitsOf .or .i64 (IntKind.i64.wrap (1 * 2 ^ min (((g.as.getD k19 El.d).f).toNat) 64)) (IntKind.i64.wrap (1 * 2 ^ min (((g.as.getD k19 El.d).t).toNat) 64)))).toNat) (0 : Int))) then
     ck (l12.length + 1 ≤ 17592186044416) <|
     some ((l12 ++ ([((k19 : Nat) : Int)] : List Int)), (bitsOf .andNot .i64 x13 (bitsOf .or .i64 (IntKind.i64.wrap (1 * 2 ^ min (((g.as.getD k19 El.d).f).toNat) 64)) (IntKind.i64.wrap (1 * 2 ^ min (((g.as.getD k19 El.d).t).toNat) 64)))))
    else
     some (l12, x13)
   else
    some (l12, x13)
  else
   some (l12, x13)
 else
  some (l12, x13)
def blossom_Most_F (g : Graph) : Option ((List Int) × Int) :=
 (blossom_Check_F g).bind fun r2 =>
 if r2 ≠ 0 then
  some ([], r2)
 else
  (blossom_most_F g).bind fun r5 =>
  ck (0 ≤ g.n) <|
  ck (InI ((IntKind.i64.wrap (1 * 2 ^ min g.n.toNat 64)) - 1)) <|
  (forN (blossom_Most_B1 g r5) g.as.length 0 ([], ((IntKind.i64.wrap (1 * 2 ^ min g.n.toNat 64)) - 1))).bind fun (l17, x18) =>
  some (l17, 0)
def blossom_Most_P (out : (List Int) × Int) (d : D) (H : List HL) : Prop := ∃ β1 : BK, d = .tp 2 (nth [.own β1 1 0 out.1.length, .v (.int .i64 out.2)]) ∧ H = [.one β1 3 1 (row out.1)]
theorem blossom_Most_I (out : (List Int) × Int) : IndepP (blossom_Most_P out) := IndepP.of (by rintro _ _ ⟨β1, rfl, rfl⟩; exact ⟨inferInstance, inferInstance⟩)
set_option maxRecDepth 100000 in
set_option maxHeartbeats 4000000 in
theorem blossom_Most_spec (g : Graph) {out : (List Int) × Int} (H : blossom_Most_F g = some out) : Does Try.prog 26 [.ag 2 (nth [.v (.int .i64 g.n), slD g.as])] [] (blossom_Most_P out) := by
 unfold blossom_Most_F at H
 refine Does.intro Try.func26 rfl Try.ntmps26 rfl fun w0 I0 => ?_
 refine GoC.seq ?_
 refine GoC.region ?_
 refine GoO.effB (ef_boxAg rfl rfl) (fun β1 => ?_)
 refine GoO.pure (ps_assign rfl rfl) ?_
 refine GoO.pure (ps_assign rfl rfl) ?_
 refine GoO.nil ?_
 refine GoK.code ?_
 refine GoC.seq ?_
 refine GoC.seq ?_
 refine GoC.region ?_
 refine GoO.pure (ps_loadAg rfl At.p0 At.p0 Nat.zero_lt_one rfl rfl) ?_
 have hb := bind_l H; clear H
 obtain ⟨r2, e3, H⟩ := hb
 refine GoO.effC (ef_call rfl (Take.nil _) (Take.nil _) (blossom_Check_spec g e3) (LendL.cons (Lend.agA ⟨⟨trivial, Lend.refl _ _⟩, Lend.refl _ _⟩) (LendL.nil)) rfl (blossom_Check_I (r2))) (fun rr HH hp => ?_)
 obtain ⟨rfl, rfl⟩ := hp
 refine GoO.pure (ps_assign rfl rfl) ?_
 refine GoO.nil ?_
 refine GoK.code ?_
 refine GoC.seq ?_
 refine GoC.region ?_
 refine GoO.pure (ps_move rfl rfl) ?_
 refine GoO.pure (ps_neq rfl rfl rfl) ?_
 refine GoO.nil ?_
 refine GoK.code ?_
 refine GoC.condD rfl (fun h4 => ?_) (fun h4 => ?_)
 replace H := ite_t h4 H
 refine GoC.seq ?_
 refine GoC.region ?_
 refine GoO.pure (ps_move rfl rfl) ?_
 refine GoO.pure (ps_assign rfl rfl) ?_
 refine GoO.pure (ps_assign rfl rfl) ?_
 refine GoO.nil ?_
 refine GoK.code ?_
 obtain rfl := Option.some.inj H
 refine GoC.le (le_row0 3 1 (row ([] : List Int)) rfl) ?_
 exact GoC.retL (ds := [.own ⟨0, 0, 0⟩ 1 0 0, .v (.int .i64 r2)]) Try.results26 (ResL.cons (ResD.le (ResD.tmp rfl) (by exact DLe.nilOwn)) (ResL.cons (ResD.tmp rfl) (ResL.nil))) (Take.cons _ _ _ _ _ Rem.p0 (Take.nil _)) ⟨⟨0, 0, 0⟩, rfl, rfl⟩
 replace H := ite_f h4 H
 refine GoC.skip ?_
 refine GoK.code ?_
 refine GoC.seq ?_
 refine GoC.region ?_
 refine GoO.pure (ps_loadAg rfl At.p0 At.p0 Nat.zero_lt_one rfl rfl) ?_
 have hb := bind_l H; clear H
 obtain ⟨r5, e7, H⟩ := hb
 refine GoO.effC (ef_call rfl (Take.nil _) (Take.nil _) (blossom_most_spec g e7) (LendL.cons (Lend.agA ⟨⟨trivial, Lend.refl _ _⟩, Lend.refl _ _⟩) (LendL.nil)) rfl (blossom_most_I (r5))) (fun rr HH hp => ?_)
 obtain ⟨β6, rfl, rfl⟩ := hp
 refine GoO.pure (ps_assign rfl rfl) ?_
 refine GoO.nil ?_
 refine GoK.code ?_
 refine GoC.seq ?_
 refine GoC.region ?_
 refine GoO.pure (ps_assign rfl rfl) ?_
 refine GoO.nil ?_
 refine GoK.code ?_
 refine GoC.seq ?_
 refine GoC.region ?_
 refine GoO.pure (ps_fieldAddr rfl rfl) ?_
 refine GoO.pure (ps_load rfl At.p1 At.p1 Nat.zero_lt_one rfl rfl) ?_
 have c8 := ck_l H; replace H := ck_r H
 refine GoO.pure (ps_shl rfl rfl rfl c8) ?_
 have c9 := ck_l H; replace H := ck_r H
 refine GoO.pure (ps_sub rfl rfl rfl c9) ?_
 refine GoO.pure (ps_assign rfl rfl) ?_
 refine GoO.nil ?_
 refine GoK.code ?_
 refine GoC.seq ?_
 refine GoC.seq ?_
 refine GoC.region ?_
 refine GoO.pure (ps_fieldAddr rfl rfl) ?_
 refine GoO.pure (ps_load rfl At.p1 At.p1 Nat.zero_lt_one rfl rfl) ?_
 refine GoO.pure (ps_len rfl (by constructor) rfl) ?_
 refine GoO.lenLe (n := g.as.length) (x := .tmp 23) rfl (by constructor) sl_lenLe (fun ml10 => ?_)
 refine GoO.pure (ps_move rfl rfl) ?_
 refine GoO.nil ?_
 refine GoK.code ?_
 have hb := bind_l H; clear H
 obtain ⟨⟨l17, x18⟩, hl34, HK14⟩ := hb
 refine GoC.blockJ [] [.one β6 3 1 (row r5), .one β1 33 2 (st1 (nth [.v (.int .i64 g.n), slD g.as]))] (fun v h => ∃ (β11 : BK), v = [(6, .own β11 1 0 l17.length)] ∧ h = [.one β11 3 1 (row l17)]) ?_ ?_
 refine GoC.loopJ [(5, _), (23, _), (24, _)] [.one β6 3 1 (row r5), .one β1 33 2 (st1 (nth [.v (.int .i64 g.n), slD g.as]))] (fun mQ v h => ∃ (k19 : Nat) (l12 : (List Int)) (x13 : Int) (β11 : BK), (k19 + mQ = g.as.length ∧ forN (blossom_Most_B1 g r5) mQ k19 (l12, x13) = some (l17, x18)) ∧ v = [(25, .v (.int .i64 ((k19 : Nat) : Int))), (6, .own β11 1 0 l12.length), (7, .v (.int .i64 x13))] ∧ h = [.one β11 3 1 (row l12)]) g.as.length ⟨_, _, _, ⟨0, 0, 0⟩, ⟨by omega, hl34⟩, rfl, rfl⟩ (EnvD.eq rfl (EnvD.cons rfl (DLe.nilOwn) (EnvD.eq rfl (EnvD.eq rfl (EnvD.eq rfl (EnvD.eq rfl (EnvD.nil))))))) (TkD.no _ _ _ _ _ rfl (TkD.cons _ _ _ _ _ Rem.p0 (HLe.refl _) (TkD.cons _ _ _ _ _ Rem.p0 (HLe.st ⟨⟨trivial, DLe.refl _⟩, DLe.refl _⟩) (TkD.nil _)))) ?_
 rintro m20 v h ⟨k19, l12, x13, β11, ⟨hkk19, hF15⟩, rfl, rfl⟩
 refine GoC.seq ?_
 refine GoC.region ?_
 refine GoO.pure (ps_lss rfl rfl rfl) ?_
 refine GoO.nil ?_
 refine GoK.code ?_
 refine GoC.seq ?_
 refine GoC.condD rfl (fun (hk19 : (k19 : Int) < ((g.as.length : Nat) : Int)) => ?_) (fun (hk19 : ¬ (k19 : Int) < ((g.as.length : Nat) : Int)) => ?_)
 obtain ⟨m20', rfl⟩ : ∃ x, m20 = x + 1 := ⟨m20 - 1, by omega⟩
 have hb := bind_l hF15; clear hF15
 obtain ⟨qrm20, H, hF15⟩ := hb
 have hnk19 : k19 < g.as.length := by omega
 have hIk19 : InI ((k19 : Int) + 1) := inI_len hk19 ml10
 refine GoC.skip ?_
 refine GoK.code ?_
 refine GoC.seq ?_
 refine GoC.block ?_
 refine GoC.seq ?_
 refine GoC.region ?_
 refine GoO.pure (ps_move rfl rfl) ?_
 refine GoO.pure (ps_indexAddrRN rfl rfl hnk19 rfl) ?_
 refine GoO.pure (ps_loadAgR rfl hnk19 rfl rfl) ?_
 refine GoO.effB (ef_alloc rfl) (fun β21 => ?_)
 refine GoO.pure (ps_assign rfl rfl) ?_
 refine GoO.eff1 (ef_storeAg rfl rfl At.p0 upd_whole Nat.zero_lt_one rfl) ?_
 refine GoO.nil ?_
 refine GoK.code ?_
 refine GoC.seq ?_
 refine GoC.drawA (.q 0 (.q 1 (.q 2 (.q 3 (.q 4 (.q 5 (.q 6 (.q 7 (.q 8 (.q 9 (.done))))))))))) follows (by kernel_rfl) ?_
 refine GoP.qN rfl (ps_move rfl rfl) ?_
 refine GoP.qN rfl (ps_fieldAddr rfl rfl) ?_
 refine GoP.qN rfl (ps_load rfl At.p0 At.p0 Nat.zero_lt_one rfl rfl) ?_
 have c22 := ck_l H; replace H := ck_r H
 refine GoP.qN rfl (ps_shl rfl rfl rfl c22) ?_
 refine GoP.qN rfl (ps_fieldAddr rfl rfl) ?_
 refine GoP.qN rfl (ps_load rfl At.p0 At.p0 Nat.zero_lt_one rfl rfl) ?_
 have c23 := ck_l H; replace H := ck_r H
 refine GoP.qN rfl (ps_shl rfl rfl rfl c23) ?_
 refine GoP.qN rfl (ps_or rfl rfl rfl) ?_
 refine GoP.qN rfl (ps_andNot rfl rfl rfl) ?_
 refine GoP.qN rfl (ps_assign rfl rfl) ?_
 refine GoP.done ?_
 refine GoK.code ?_
 refine GoC.seq ?_
 refine GoC.drawA (.q 0 (.q 1 (.q 2 (.q 3 (.q 4 (.q 5 (.q 6 (.q 7 (.q 8 (.q 9 (.q 10 (.q 11 (.q 12 (.q 13 (.q 14 (.q 15 (.q 16 (.q 17 (.q 18 (.q 19 (.q 20 (.q 21 (.q 22 (.q 23 (.q 24 (.q 25 (.q 26 (.q 27 (.q 28 (.q 29 (.q 30 (.q 31 (.q 32 (.done)))))))))))))))))))))))))))))))))) follows (by kernel_rfl) ?_
 refine GoP.qN rfl (ps_fieldAddr rfl rfl) ?_
 refine GoP.qN rfl (ps_load rfl At.p0 At.p0 Nat.zero_lt_one rfl rfl) ?_
 refine GoP.qN rfl (ps_fieldAddr rfl rfl) ?_
 refine GoP.qN rfl (ps_load rfl At.p0 At.p0 Nat.zero_lt_one rfl rfl) ?_
 refine GoP.qN rfl (ps_neq rfl rfl rfl) ?_
 refine GoP.qN rfl (ps_move rfl rfl) ?_
 refine GoP.decideD 44 rfl (fun h24 => ?_) (fun h24 => ?_)
 replace H := ite_t h24 H
 refine GoP.qT rfl rfl rfl rfl (ps_move rfl rfl) ?_
 refine GoP.qT rfl rfl rfl rfl (ps_fieldAddr rfl rfl) ?_
 refine GoP.qT rfl rfl rfl rfl (ps_load rfl At.p0 At.p0 Nat.zero_lt_one rfl rfl) ?_
 refine GoP.qT rfl rfl rfl rfl (ps_shr rfl rfl rfl c22) ?_
 refine GoP.qT rfl rfl rfl rfl (ps_and rfl rfl rfl) ?_
 refine GoP.qT rfl rfl rfl rfl (ps_eql rfl rfl rfl) ?_
 refine GoP.qN rfl (ps_pickT rfl rfl rfl) ?_
 refine GoP.qN rfl (ps_move rfl rfl) ?_
 refine GoP.decideD 52 rfl (fun h25 => ?_) (fun h25 => ?_)
 replace H := ite_t h25 H
 refine GoP.qT rfl rfl rfl rfl (ps_move rfl rfl) ?_
 refine GoP.qT rfl rfl rfl rfl (ps_fieldAddr rfl rfl) ?_
 refine GoP.qT rfl rfl rfl rfl (ps_load rfl At.p0 At.p0 Nat.zero_lt_one rfl rfl) ?_
 refine GoP.qT rfl rfl rfl rfl (ps_shr rfl rfl rfl c23) ?_
 refine GoP.qT rfl rfl rfl rfl (ps_and rfl rfl rfl) ?_
 refine GoP.qT rfl rfl rfl rfl (ps_eql rfl rfl rfl) ?_
 refine GoP.qN rfl (ps_pickT rfl rfl rfl) ?_
 refine GoP.qN rfl (ps_move rfl rfl) ?_
 refine GoP.decideD 60 rfl (fun h26 => ?_) (fun h26 => ?_)
 replace H := ite_t h26 H
 refine GoP.qT rfl rfl rfl rfl (ps_move rfl rfl) ?_
 refine GoP.qT rfl rfl rfl rfl (ps_move rfl rfl) ?_
 have c27 := ck_l H; replace H := ck_r H
 refine GoP.qT rfl rfl rfl rfl (ps_indexAddr0 rfl rfl c27 rfl) ?_
 refine GoP.qT rfl rfl rfl rfl (ps_load rfl At.p2 At.p2 (idx_lt c27) rfl rfl) ?_
 refine GoP.qT rfl rfl rfl rfl (ps_move rfl rfl) ?_
 refine GoP.qT rfl rfl rfl rfl (ps_move rfl rfl) ?_
 have c28 := ck_l H; replace H := ck_r H
 refine GoP.qT rfl rfl rfl rfl (ps_indexAddr0 rfl rfl c28 rfl) ?_
 refine GoP.qT rfl rfl rfl rfl (ps_load rfl At.p2 At.p2 (idx_lt c28) rfl rfl) ?_
 have c29 := ck_l H; replace H := ck_r H
 refine GoP.qT rfl rfl rfl rfl (ps_add rfl rfl rfl c29) ?_
 refine GoP.qT rfl rfl rfl rfl (ps_eql rfl rfl rfl) ?_
 refine GoP.qN rfl (ps_pickT rfl rfl rfl) ?_
 refine GoP.done ?_
 refine GoK.code ?_
 refine GoC.condD rfl (fun h30 => ?_) (fun h30 => ?_)
 replace H := ite_t h30 H
 refine GoC.seq ?_
 refine GoC.region ?_
 refine GoO.pure (ps_move rfl rfl) ?_
 refine GoO.pure (ps_move rfl rfl) ?_
 refine GoO.effB (ef_buildSlice (row ([((k19 : Nat) : Int)] : List Int)) rfl (Parts.cons _ _ _ _ _ _ _ _ ⟨rfl, rfl⟩ (Part.one _ rfl rfl) rfl rfl (Parts.nil _)) rfl rfl rfl rfl) (fun β31 => ?_)
 have c33 := ck_l H; replace H := ck_r H
 refine GoO.effB (ef_append rfl rfl Rem.p2 (Src.own At.p0 (by first | omega | (simp only [subl_length, cpl_length, List.length_set, List.length_append, List.length_cons, List.length_nil, List.length_replicate, row_len]; omega) | (simp only [subl_length, cpl_length, List.length_set, List.length_append, List.length_cons, List.length_nil, List.length_replicate, row_len]; done))) (cat_row (α := Int) (by first | rfl | omega | (simp only [subl_length, cpl_length, List.length_set, List.length_append, List.length_cons, List.length_nil, List.length_replicate, row_len] <;> first | rfl | omega)) (by first | rfl | omega | (simp only [subl_length, cpl_length, List.length_set, List.length_append, List.length_cons, List.length_nil, List.length_replicate, row_len] <;> first | rfl | omega)) (fun _ _ _ _ => rfl)) (by first | omega | (simp only [subl_length, cpl_length, List.length_set, List.length_append, List.length_cons, List.length_nil, List.length_replicate, row_len]; omega) | (simp only [subl_length, cpl_length, List.length_set, List.length_append, List.length_cons, List.length_nil, List.length_replicate, row_len]; done)) (app_le c33 rfl) rfl rfl rfl) (fun β32 => ?_)
 refine GoO.pure (ps_assign rfl rfl) ?_
 refine GoO.nil ?_
 refine GoK.code ?_
 refine GoC.region ?_
 refine GoO.pure (ps_move rfl rfl) ?_
 refine GoO.pure (ps_assign rfl rfl) ?_
 refine GoO.nil ?_
 refine GoK.blk ?_
 refine GoK.code ?_
 refine GoC.region ?_
 refine GoO.pure (ps_add rfl rfl rfl hIk19) ?_
 refine GoO.pure (ps_move rfl rfl) ?_
 refine GoO.nil ?_
 obtain rfl := Option.some.inj H
 exact GoK.againJ m20' (by omega) ⟨_, _, _, β32, ⟨by omega, hF15⟩, rfl, rfl⟩ (EnvD.eq rfl (EnvD.cons rfl (DLe.len (by first | rfl | omega | (simp only [row_len, gridC_len, rowO_len, List.length_append, List.length_cons, List.length_nil] <;> first | rfl | omega))) (EnvD.eq rfl (EnvD.eq rfl (EnvD.eq rfl (EnvD.eq rfl (EnvD.nil))))))) (TkD.cons _ _ _ _ _ Rem.p0 (HLe.refl _) (TkD.cons _ _ _ _ _ Rem.p2 (HLe.refl _) (TkD.cons _ _ _ _ _ Rem.p2 (HLe.st ⟨⟨trivial, DLe.refl _⟩, DLe.refl _⟩) (TkD.nil _))))
 replace H := ite_f h30 H
 refine GoC.skip ?_
 refine GoK.blk ?_
 refine GoK.code ?_
 refine GoC.region ?_
 refine GoO.pure (ps_add rfl rfl rfl hIk19) ?_
 refine GoO.pure (ps_move rfl rfl) ?_
 refine GoO.nil ?_
 obtain rfl := Option.some.inj H
 exact GoK.againJ m20' (by omega) ⟨_, _, _, β11, ⟨by omega, hF15⟩, rfl, rfl⟩ (EnvD.eq rfl (EnvD.eq rfl (EnvD.eq rfl (EnvD.eq rfl (EnvD.eq rfl (EnvD.eq rfl (EnvD.nil))))))) (TkD.cons _ _ _ _ _ Rem.p1 (HLe.refl _) (TkD.cons _ _ _ _ _ Rem.p1 (HLe.refl _) (TkD.cons _ _ _ _ _ Rem.p1 (HLe.st ⟨⟨trivial, DLe.refl _⟩, DLe.refl _⟩) (TkD.nil _))))
 replace H := ite_f h26 H
 refine GoP.qF rfl rfl rfl rfl rfl ?_
 refine GoP.qF rfl rfl rfl rfl rfl ?_
 refine GoP.qF rfl rfl rfl rfl rfl ?_
 refine GoP.qF rfl rfl rfl rfl rfl ?_
 refine GoP.qF rfl rfl rfl rfl rfl ?_
 refine GoP.qF rfl rfl rfl rfl rfl ?_
 refine GoP.qF rfl rfl rfl rfl rfl ?_
 refine GoP.qF rfl rfl rfl rfl rfl ?_
 refine GoP.qF rfl rfl rfl rfl rfl ?_
 refine GoP.qF rfl rfl rfl rfl rfl ?_
 refine GoP.qN rfl (ps_pickF rfl rfl rfl) ?_
 refine GoP.done ?_
 refine GoK.code ?_
 refine GoC.condF rfl ?_
 refine GoC.skip ?_
 refine GoK.blk ?_
 refine GoK.code ?_
 refine GoC.region ?_
 refine GoO.pure (ps_add rfl rfl rfl hIk19) ?_
 refine GoO.pure (ps_move rfl rfl) ?_
 refine GoO.nil ?_
 obtain rfl := Option.some.inj H
 exact GoK.againJ m20' (by omega) ⟨_, _, _, β11, ⟨by omega, hF15⟩, rfl, rfl⟩ (EnvD.eq rfl (EnvD.eq rfl (EnvD.eq rfl (EnvD.eq rfl (EnvD.eq rfl (EnvD.eq rfl (EnvD.nil))))))) (TkD.cons _ _ _ _ _ Rem.p1 (HLe.refl _) (TkD.cons _ _ _ _ _ Rem.p1 (HLe.refl _) (TkD.cons _ _ _ _ _ Rem.p1 (HLe.st ⟨⟨trivial, DLe.refl _⟩, DLe.refl _⟩) (TkD.nil _))))
 replace H := ite_f h25 H
 refine GoP.qF rfl rfl rfl rfl rfl ?_
 refine GoP.qF rfl rfl rfl rfl rfl ?_
 refine GoP.qF rfl rfl rfl rfl rfl ?_
 refine GoP.qF rfl rfl rfl rfl rfl ?_
 refine GoP.qF rfl rfl rfl rfl rfl ?_
 refine GoP.qF rfl rfl rfl rfl rfl ?_
 refine GoP.qN rfl (ps_pickF rfl rfl rfl) ?_
 refine GoP.qN rfl (ps_move rfl rfl) ?_
 refine GoP.qF rfl rfl rfl rfl rfl ?_
 refine GoP.qF rfl rfl rfl rfl rfl ?_
 refine GoP.qF rfl rfl rfl rfl rfl ?_
 refine GoP.qF rfl rfl rfl rfl rfl ?_
 refine GoP.qF rfl rfl rfl rfl rfl ?_
 refine GoP.qF rfl rfl rfl rfl rfl ?_
 refine GoP.qF rfl rfl rfl rfl rfl ?_
 refine GoP.qF rfl rfl rfl rfl rfl ?_
 refine GoP.qF rfl rfl rfl rfl rfl ?_
 refine GoP.qF rfl rfl rfl rfl rfl ?_
 refine GoP.qN rfl (ps_pickF rfl rfl rfl) ?_
 refine GoP.done ?_
 refine GoK.code ?_
 refine GoC.condF rfl ?_
 refine GoC.skip ?_
 refine GoK.blk ?_
 refine GoK.code ?_
 refine GoC.region ?_
 refine GoO.pure (ps_add rfl rfl rfl hIk19) ?_
 refine GoO.pure (ps_move rfl rfl) ?_
 refine GoO.nil ?_
 obtain rfl := Option.some.inj H
 exact GoK.againJ m20' (by omega) ⟨_, _, _, β11, ⟨by omega, hF15⟩, rfl, rfl⟩ (EnvD.eq rfl (EnvD.eq rfl (EnvD.eq rfl (EnvD.eq rfl (EnvD.eq rfl (EnvD.eq rfl (EnvD.nil))))))) (TkD.cons _ _ _ _ _ Rem.p1 (HLe.refl _) (TkD.cons _ _ _ _ _ Rem.p1 (HLe.refl _) (TkD.cons _ _ _ _ _ Rem.p1 (HLe.st ⟨⟨trivial, DLe.refl _⟩, DLe.refl _⟩) (TkD.nil _))))
 replace H := ite_f h24 H
 refine GoP.qF rfl rfl rfl rfl rfl ?_
 refine GoP.qF rfl rfl rfl rfl rfl ?_
 refine GoP.qF rfl rfl rfl rfl rfl ?_
 refine GoP.qF rfl rfl rfl rfl rfl ?_
 refine GoP.qF rfl rfl rfl rfl rfl ?_
 refine GoP.qF rfl rfl rfl rfl rfl ?_
 refine GoP.qN rfl (ps_pickF rfl rfl rfl) ?_
 refine GoP.qN rfl (ps_move rfl rfl) ?_
 refine GoP.qF rfl rfl rfl rfl rfl ?_
 refine GoP.qF rfl rfl rfl rfl rfl ?_
 refine GoP.qF rfl rfl rfl rfl rfl ?_
 refine GoP.qF rfl rfl rfl rfl rfl ?_
 refine GoP.qF rfl rfl rfl rfl rfl ?_
 refine GoP.qF rfl rfl rfl rfl rfl ?_
 refine GoP.qN rfl (ps_pickF rfl rfl rfl) ?_
 refine GoP.qN rfl (ps_move rfl rfl) ?_
 refine GoP.qF rfl rfl rfl rfl rfl ?_
 refine GoP.qF rfl rfl rfl rfl rfl ?_
 refine GoP.qF rfl rfl rfl rfl rfl ?_
 refine GoP.qF rfl rfl rfl rfl rfl ?_
 refine GoP.qF rfl rfl rfl rfl rfl ?_
 refine GoP.qF rfl rfl rfl rfl rfl ?_
 refine GoP.qF rfl rfl rfl rfl rfl ?_
 refine GoP.qF rfl rfl rfl rfl rfl ?_
 refine GoP.qF rfl rfl rfl rfl rfl ?_
 refine GoP.qF rfl rfl rfl rfl rfl ?_
 refine GoP.qN rfl (ps_pickF rfl rfl rfl) ?_
 refine GoP.done ?_
 refine GoK.code ?_
 refine GoC.condF rfl ?_
 refine GoC.skip ?_
 refine GoK.blk ?_
 refine GoK.code ?_
 refine GoC.region ?_
 refine GoO.pure (ps_add rfl rfl rfl hIk19) ?_
 refine GoO.pure (ps_move rfl rfl) ?_
 refine GoO.nil ?_
 obtain rfl := Option.some.inj H
 exact GoK.againJ m20' (by omega) ⟨_, _, _, β11, ⟨by omega, hF15⟩, rfl, rfl⟩ (EnvD.eq rfl (EnvD.eq rfl (EnvD.eq rfl (EnvD.eq rfl (EnvD.eq rfl (EnvD.eq rfl (EnvD.nil))))))) (TkD.cons _ _ _ _ _ Rem.p1 (HLe.refl _) (TkD.cons _ _ _ _ _ Rem.p1 (HLe.refl _) (TkD.cons _ _ _ _ _ Rem.p1 (HLe.st ⟨⟨trivial, DLe.refl _⟩, DLe.refl _⟩) (TkD.nil _))))
 obtain rfl : m20 = 0 := by omega
 refine GoC.exit rfl ?_
 cases hF15
 exact GoK.meet ⟨β11, rfl, rfl⟩ (EnvD.cons rfl (DLe.len (by first | rfl | omega | (simp only [row_len, gridC_len, rowO_len] <;> first | rfl | omega))) (EnvD.nil)) (TkD.cons _ _ _ _ _ Rem.p0 (HLe.refl _) (TkD.cons _ _ _ _ _ Rem.p0 (HLe.refl _) (TkD.cons _ _ _ _ _ Rem.p0 (HLe.st ⟨⟨trivial, DLe.refl _⟩, DLe.refl _⟩) (TkD.nil _))))
 rintro v h ⟨β11, rfl, rfl⟩
 have H := HK14; clear HK14
 refine GoK.code ?_
 refine GoC.seq ?_
 refine GoC.region ?_
 refine GoO.pure (ps_move rfl rfl) ?_
 refine GoO.pure (ps_assign rfl rfl) ?_
 refine GoO.pure (ps_assign rfl rfl) ?_
 refine GoO.nil ?_
 refine GoK.code ?_
 obtain rfl := Option.some.inj H
 exact GoC.retL (ds := [.own β11 1 0 l17.length, .v (.int .i64 0)]) Try.results26 (ResL.cons (ResD.tmp rfl) (ResL.cons (ResD.tmp rfl) (ResL.nil))) (Take.cons _ _ _ _ _ Rem.p0 (Take.nil _)) ⟨β11, rfl, rfl⟩

def blossom_ones_B1 : (Int × Nat) → Option (Ct (Int × Nat) (Int)) := fun (x1, n2) =>
 if 0 < x1 then
  ck (InI (((n2 : Nat) : Int) + 1)) <|
  ck (InI (x1 - 1)) <|
  some (.go ((bitsOf .and .i64 x1 (x1 - 1)), (n2 + 1)))
 else
  some (.brk (x1, n2))
def blossom_ones_F (set_ : Int) : Option (Int) :=
 (loopC (blossom_ones_B1) 1000000 (set_, 0)).bind fun q => match q with
 | .go (x6, n7) =>
  some ((n7 : Nat) : Int)
 | .ret x => some x
def blossom_ones_P (out : Int) (d : D) (H : List HL) : Prop := d = .v (.int .i64 out) ∧ H = []
theorem blossom_ones_I (out : Int) : IndepP (blossom_ones_P out) := IndepP.of (by rintro _ _ ⟨rfl, rfl⟩; exact ⟨inferInstance, inferInstance⟩)
set_option maxRecDepth 100000 in
set_option maxHeartbeats 4000000 in
theorem blossom_ones_spec (set_ : Int) {out : Int} (H : blossom_ones_F set_ = some out) : Does Try.prog 61 [.v (.int .i64 set_)] [] (blossom_ones_P out) := by
 unfold blossom_ones_F at H
 refine Does.intro Try.func61 rfl Try.ntmps61 rfl fun w0 I0 => ?_
 refine GoC.seq ?_
 refine GoC.region ?_
 refine GoO.pure (ps_assign rfl rfl) ?_
 refine GoO.nil ?_
 refine GoK.code ?_
 refine GoC.seq ?_
 refine GoC.region ?_
 refine GoO.pure (ps_assign rfl rfl) ?_
 refine GoO.nil ?_
 refine GoK.code ?_
 refine GoC.seq ?_
 have hb := bind_l H; clear H
 obtain ⟨q5, hl12, HK3⟩ := hb
 refine GoC.blockJ [] [] (fun v h => ∃ (x6 : Int) (n7 : Nat), q5 = .go (x6, n7) ∧ v = [(3, .v (.int .i64 ((n7 : Nat) : Int)))] ∧ h = []) ?_ ?_
 refine GoC.loopJ [] [] (fun mQ v h => ∃ (x1 : Int) (n2 : Nat), loopC (blossom_ones_B1) mQ (x1, n2) = some q5 ∧ v = [(0, .v (.int .i64 x1)), (3, .v (.int .i64 ((n2 : Nat) : Int)))] ∧ h = []) 1000000 ⟨_, _, hl12, rfl, rfl⟩ (EnvD.eq rfl (EnvD.eq rfl (EnvD.nil))) (TkD.nil _) ?_
 rintro m8 v h ⟨x1, n2, hF4, rfl, rfl⟩
 obtain ⟨m8', rfl⟩ | rfl : (∃ x, m8 = x + 1) ∨ m8 = 0 := by cases m8 <;> simp
 case inr => cases hF4
 have hb := bind_l hF4; clear hF4
 obtain ⟨qrm8, H, hF4⟩ := hb
 refine GoC.seq ?_
 refine GoC.seq ?_
 refine GoC.region ?_
 refine GoO.pure (ps_move rfl rfl) ?_
 refine GoO.pure (ps_gtr rfl rfl rfl) ?_
 refine GoO.nil ?_
 refine GoK.code ?_
 refine GoC.condD rfl (fun h9 => ?_) (fun h9 => ?_)
 replace H := ite_t h9 H
 refine GoC.skip ?_
 refine GoK.code ?_
 refine GoC.seq ?_
 refine GoC.block ?_
 refine GoC.region ?_
 refine GoO.pure (ps_move rfl rfl) ?_
 have c10 := ck_l H; replace H := ck_r H
 refine GoO.pure (ps_add rfl rfl rfl c10) ?_
 refine GoO.pure (ps_assign rfl rfl) ?_
 refine GoO.nil ?_
 refine GoK.blk ?_
 refine GoK.code ?_
 refine GoC.region ?_
 refine GoO.pure (ps_move rfl rfl) ?_
 refine GoO.pure (ps_move rfl rfl) ?_
 have c11 := ck_l H; replace H := ck_r H
 refine GoO.pure (ps_sub rfl rfl rfl c11) ?_
 refine GoO.pure (ps_and rfl rfl rfl) ?_
 refine GoO.pure (ps_assign rfl rfl) ?_
 refine GoO.nil ?_
 obtain rfl := Option.some.inj H
 exact GoK.againJ m8' (by omega) ⟨_, _, hF4, rfl, rfl⟩ (EnvD.eq rfl (EnvD.eq rfl (EnvD.nil))) (TkD.nil _)
 replace H := ite_f h9 H
 refine GoC.exit rfl ?_
 obtain rfl := Option.some.inj H
 obtain rfl := Option.some.inj hF4
 exact GoK.meet ⟨_, _, rfl, rfl, rfl⟩ (EnvD.eq rfl (EnvD.nil)) (TkD.nil _)
 rintro v h ⟨x6, n7, rfl, rfl, rfl⟩
 have H := HK3; clear HK3
 refine GoK.code ?_
 refine GoC.seq ?_
 refine GoC.region ?_
 refine GoO.pure (ps_move rfl rfl) ?_
 refine GoO.pure (ps_assign rfl rfl) ?_
 refine GoO.nil ?_
 refine GoK.code ?_
 obtain rfl := Option.some.inj H
 exact GoC.retL (ds := [.v (.int .i64 ((n7 : Nat) : Int))]) Try.results61 (ResL.cons (ResD.tmp rfl) (ResL.nil)) (Take.nil _) ⟨rfl, rfl⟩

def blossom_odd_B1 : Nat → (Nat → Int) → Option ((Nat → Int)) := fun k8 f3 =>
 some (updF f3 k8 ((k8 : Nat) : Int))
def blossom_odd_B3 (g : Graph) (set_ : Int) : Nat → (Nat → Int) → Option ((Nat → Int)) := fun k25 f20 =>
 ck (0 ≤ ((g.as.getD k25 El.d).f)) <|
 if (bitsOf .and .i64 (Int.fdiv set_ (2 ^ min (((g.as.getD k25 El.d).f).toNat) 64)) 1) = 0 then
  ck (0 ≤ ((g.as.getD k25 El.d).t)) <|
  if (bitsOf .and .i64 (Int.fdiv set_ (2 ^ min (((g.as.getD k25 El.d).t).toNat) 64)) 1) = 0 then
   ck (0 ≤ (g.as.getD k25 El.d).f ∧ (g.as.getD k25 El.d).f < 12) <|
   ck (0 ≤ (g.as.getD k25 El.d).t ∧ (g.as.getD k25 El.d).t < 12) <|
   some (updF (updF f20 (((g.as.getD k25 El.d).f).toNat) (min (f20 (((g.as.getD k25 El.d).f).toNat)) (f20 (((g.as.getD k25 El.d).t).toNat)))) (((g.as.getD k25 El.d).t).toNat) (min (f20 (((g.as.getD k25 El.d).f).toNat)) (f20 (((g.as.getD k25 El.d).t).toNat))))
  else
   some f20
 else
  some f20
def blossom_odd_B2 (g : Graph) (set_ : Int) : Nat → (Nat → Int) → Option ((Nat → Int)) := fun k17 f12 =>
 (forN (blossom_odd_B3 g set_) g.as.length 0 f12).bind fun f24 =>
 some f24
def blossom_odd_B4 (set_ : Int) (f16 : (Nat → Int)) : Nat → (Nat → Int) → Option ((Nat → Int)) := fun k42 f37 =>
 if (bitsOf .and .i64 (Int.fdiv set_ (2 ^ min k42 64)) 1) = 0 then
  ck (k42 < 12) <|
  ck (0 ≤ (f16 k42) ∧ (f16 k42) < 12) <|
  ck (InI ((f37 ((f16 k42).toNat)) + 1)) <|
  some (updF f37 ((f16 k42).toNat) ((f37 ((f16 k42).toNat)) + 1))
 else
  some f37
def blossom_odd_B5 (f41 : (Nat → Int)) : Nat → Int → Option (Int) := fun k54 x49 =>
 ck (InI (x49 + (Int.tmod (f41 k54) 2))) <|
 some (x49 + (Int.tmod (f41 k54) 2))
def blossom_odd_F (g : Graph) (set_ : Int) : Option (Int) :=
 (forN (blossom_odd_B1) 12 0 (fun _ => (0 : Int) : Nat → Int)).bind fun f7 =>
 ck (InI g.n) <|
 (forN (blossom_odd_B2 g set_) g.n.toNat 0 f7).bind fun f16 =>
 (forN (blossom_odd_B4 set_ f16) g.n.toNat 0 (fun _ => (0 : Int) : Nat → Int)).bind fun f41 =>
 (forN (blossom_odd_B5 f41) 12 0 0).bind fun x53 =>
 some x53
def blossom_odd_P (out : Int) (d : D) (H : List HL) : Prop := d = .v (.int .i64 out) ∧ H = []
theorem blossom_odd_I (out : Int) : IndepP (blossom_odd_P out) := IndepP.of (by rintro _ _ ⟨rfl, rfl⟩; exact ⟨inferInstance, inferInstance⟩)
set_option maxRecDepth 100000 in
set_option maxHeartbeats 4000000 in
theorem blossom_odd_spec (g : Graph) (set_ : Int) {out : Int} (H : blossom_odd_F g set_ = some out) : Does Try.prog 62 [.ag 2 (nth [.v (.int .i64 g.n), slD g.as]), .v (.int .i64 set_)] [] (blossom_odd_P out) := by
 unfold blossom_odd_F at H
 refine Does.intro Try.func62 rfl Try.ntmps62 rfl fun w0 I0 => ?_
 refine GoC.seq ?_
 refine GoC.region ?_
 refine GoO.effB (ef_boxAg rfl rfl) (fun β1 => ?_)
 refine GoO.pure (ps_assign rfl rfl) ?_
 refine GoO.nil ?_
 refine GoK.code ?_
 refine GoC.seq ?_
 refine GoC.region ?_
 refine GoO.effB (ef_alloc rfl) (fun β2 => ?_)
 refine GoO.le (Le.reH At.p0 (HLe.arr (α := Int) (pre := []) (g := fun _ => (0 : Int)) ⟨⟨⟨⟨⟨⟨⟨⟨⟨⟨⟨⟨trivial, DLe.refl _⟩, DLe.refl _⟩, DLe.refl _⟩, DLe.refl _⟩, DLe.refl _⟩, DLe.refl _⟩, DLe.refl _⟩, DLe.refl _⟩, DLe.refl _⟩, DLe.refl _⟩, DLe.refl _⟩, DLe.refl _⟩)) ?_
 refine GoO.nil ?_
 refine GoK.code ?_
 refine GoC.seq ?_
 refine GoC.seq ?_
 refine GoC.region ?_
 refine GoO.pure (ps_move rfl rfl) ?_
 refine GoO.nil ?_
 refine GoK.code ?_
 have hb := bind_l H; clear H
 obtain ⟨f7, hl10, HK4⟩ := hb
 refine GoC.blockJ [(1, .v (.int .i64 set_)), (2, .ptr β1 2 0 0)] [.one β1 33 2 (st1 (nth [.v (.int .i64 g.n), slD g.as]))] (fun v h => v = [(5, .ptr β2 12 0 0)] ∧ h = [.one β2 98 12 (arrC (α := Int) [] f7)]) ?_ ?_
 refine GoC.loopJ [(1, _), (2, _)] [.one β1 33 2 (st1 (nth [.v (.int .i64 g.n), slD g.as]))] (fun mQ v h => ∃ (k8 : Nat) (f3 : (Nat → Int)), (k8 + mQ = 12 ∧ forN (blossom_odd_B1) mQ k8 f3 = some f7) ∧ v = [(15, .v (.int .i64 ((k8 : Nat) : Int))), (5, .ptr β2 12 0 0)] ∧ h = [.one β2 98 12 (arrC (α := Int) [] f3)]) 12 ⟨_, _, ⟨by omega, hl10⟩, rfl, rfl⟩ (EnvD.eq rfl (EnvD.eq rfl (EnvD.eq rfl (EnvD.eq rfl (EnvD.nil))))) (TkD.cons _ _ _ _ _ Rem.p0 (HLe.refl _) (TkD.cons _ _ _ _ _ Rem.p0 (HLe.st ⟨⟨trivial, DLe.refl _⟩, DLe.refl _⟩) (TkD.nil _))) ?_
 rintro m9 v h ⟨k8, f3, ⟨hkk8, hF5⟩, rfl, rfl⟩
 refine GoC.seq ?_
 refine GoC.region ?_
 refine GoO.pure (ps_lss rfl rfl rfl) ?_
 refine GoO.nil ?_
 refine GoK.code ?_
 refine GoC.seq ?_
 refine GoC.condD rfl (fun (hk8 : (k8 : Int) < ((12 : Nat) : Int)) => ?_) (fun (hk8 : ¬ (k8 : Int) < ((12 : Nat) : Int)) => ?_)
 obtain ⟨m9', rfl⟩ : ∃ x, m9 = x + 1 := ⟨m9 - 1, by omega⟩
 have hb := bind_l hF5; clear hF5
 obtain ⟨qrm9, H, hF5⟩ := hb
 have hnk8 : k8 < 12 := by omega
 have hIk8 : InI ((k8 : Int) + 1) := inI_cnt hk8 (by unfold InI; omega)
 refine GoC.skip ?_
 refine GoK.code ?_
 refine GoC.seq ?_
 refine GoC.block ?_
 refine GoC.seq ?_
 refine GoC.region ?_
 refine GoO.pure (ps_move rfl rfl) ?_
 refine GoO.pure (ps_assign rfl rfl) ?_
 refine GoO.nil ?_
 refine GoK.code ?_
 refine GoC.region ?_
 refine GoO.pure (ps_move rfl rfl) ?_
 refine GoO.pure (ps_move rfl rfl) ?_
 refine GoO.pure (ps_indexAddrA rfl rfl ⟨Int.natCast_nonneg _, Int.ofNat_lt.2 hnk8⟩ rfl) ?_
 refine GoO.eff1 (ef_store rfl rfl rfl At.p0 (upd_arr1 (α := Int) (i := k8) (v := ((k8 : Nat) : Int)) rfl (by simp only [show El.size Int = 1 from rfl, List.length_cons, List.length_nil]; omega) rfl) Nat.zero_lt_one (blt_of (arr_lt (α := Int) (pre := []) (i := k8) (off := 0) (by simp only [show El.size Int = 1 from rfl, List.length_cons, List.length_nil]; omega) hnk8 (by decide) rfl))) ?_
 refine GoO.nil ?_
 refine GoK.blk ?_
 refine GoK.code ?_
 refine GoC.region ?_
 refine GoO.pure (ps_add rfl rfl rfl hIk8) ?_
 refine GoO.pure (ps_move rfl rfl) ?_
 refine GoO.nil ?_
 obtain rfl := Option.some.inj H
 exact GoK.againJ m9' (by omega) ⟨_, _, ⟨by omega, hF5⟩, rfl, rfl⟩ (EnvD.eq rfl (EnvD.eq rfl (EnvD.eq rfl (EnvD.eq rfl (EnvD.nil))))) (TkD.cons _ _ _ _ _ Rem.p0 (HLe.refl _) (TkD.cons _ _ _ _ _ Rem.p0 (HLe.st ⟨⟨trivial, DLe.refl _⟩, DLe.refl _⟩) (TkD.nil _)))
 obtain rfl : m9 = 0 := by omega
 refine GoC.exit rfl ?_
 cases hF5
 exact GoK.meet ⟨rfl, rfl⟩ (EnvD.eq rfl (EnvD.eq rfl (EnvD.eq rfl (EnvD.nil)))) (TkD.cons _ _ _ _ _ Rem.p0 (HLe.refl _) (TkD.cons _ _ _ _ _ Rem.p0 (HLe.st ⟨⟨trivial, DLe.refl _⟩, DLe.refl _⟩) (TkD.nil _)))
 rintro v h ⟨rfl, rfl⟩
 have H := HK4; clear HK4
 refine GoK.code ?_
 refine GoC.seq ?_
 refine GoC.seq ?_
 refine GoC.region ?_
 refine GoO.pure (ps_fieldAddr rfl rfl) ?_
 refine GoO.pure (ps_load rfl At.p1 At.p1 Nat.zero_lt_one rfl rfl) ?_
 refine GoO.pure (ps_move rfl rfl) ?_
 refine GoO.nil ?_
 refine GoK.code ?_
 have c11 := ck_l H; replace H := ck_r H
 have hb := bind_l H; clear H
 obtain ⟨f16, hl35, HK13⟩ := hb
 refine GoC.blockJ [(1, .v (.int .i64 set_)), (2, .ptr β1 2 0 0)] [.one β1 33 2 (st1 (nth [.v (.int .i64 g.n), slD g.as]))] (fun v h => v = [(5, .ptr β2 12 0 0)] ∧ h = [.one β2 98 12 (arrC (α := Int) [] f16)]) ?_ ?_
 refine GoC.loopJ [(1, _), (2, _), (23, _)] [.one β1 33 2 (st1 (nth [.v (.int .i64 g.n), slD g.as]))] (fun mQ v h => ∃ (k17 : Nat) (f12 : (Nat → Int)), (k17 + mQ = g.n.toNat ∧ forN (blossom_odd_B2 g set_) mQ k17 f12 = some f16) ∧ v = [(24, .v (.int .i64 ((k17 : Nat) : Int))), (5, .ptr β2 12 0 0)] ∧ h = [.one β2 98 12 (arrC (α := Int) [] f12)]) g.n.toNat ⟨_, _, ⟨by omega, hl35⟩, rfl, rfl⟩ (EnvD.eq rfl (EnvD.eq rfl (EnvD.eq rfl (EnvD.eq rfl (EnvD.eq rfl (EnvD.nil)))))) (TkD.cons _ _ _ _ _ Rem.p0 (HLe.refl _) (TkD.cons _ _ _ _ _ Rem.p0 (HLe.st ⟨⟨trivial, DLe.refl _⟩, DLe.refl _⟩) (TkD.nil _))) ?_
 rintro m18 v h ⟨k17, f12, ⟨hkk17, hF14⟩, rfl, rfl⟩
 refine GoC.seq ?_
 refine GoC.region ?_
 refine GoO.pure (ps_lss rfl rfl rfl) ?_
 refine GoO.nil ?_
 refine GoK.code ?_
 refine GoC.seq ?_
 refine GoC.condD rfl (fun (hk17 : (k17 : Int) < g.n) => ?_) (fun (hk17 : ¬ (k17 : Int) < g.n) => ?_)
 obtain ⟨m18', rfl⟩ : ∃ x, m18 = x + 1 := ⟨m18 - 1, by omega⟩
 have hb := bind_l hF14; clear hF14
 obtain ⟨qrm18, H, hF14⟩ := hb
 have hnk17 : k17 < g.n.toNat := by omega
 have hIk17 : InI ((k17 : Int) + 1) := inI_cnt hk17 c11
 refine GoC.skip ?_
 refine GoK.code ?_
 refine GoC.seq ?_
 refine GoC.block ?_
 refine GoC.seq ?_
 refine GoC.region ?_
 refine GoO.pure (ps_fieldAddr rfl rfl) ?_
 refine GoO.pure (ps_load rfl At.p1 At.p1 Nat.zero_lt_one rfl rfl) ?_
 refine GoO.pure (ps_len rfl (by constructor) rfl) ?_
 refine GoO.lenLe (n := g.as.length) (x := .tmp 27) rfl (by constructor) sl_lenLe (fun ml19 => ?_)
 refine GoO.pure (ps_move rfl rfl) ?_
 refine GoO.nil ?_
 refine GoK.code ?_
 have hb := bind_l H; clear H
 obtain ⟨f24, hl34, HK21⟩ := hb
 refine GoC.blockJ [(1, .v (.int .i64 set_)), (2, .ptr β1 2 0 0), (23, .v (.int .i64 g.n)), (24, .v (.int .i64 ((k17 : Nat) : Int)))] [.one β1 33 2 (st1 (nth [.v (.int .i64 g.n), slD g.as]))] (fun v h => v = [(5, .ptr β2 12 0 0)] ∧ h = [.one β2 98 12 (arrC (α := Int) [] f24)]) ?_ ?_
 refine GoC.loopJ [(1, _), (2, _), (23, _), (24, _), (27, _), (28, _)] [.one β1 33 2 (st1 (nth [.v (.int .i64 g.n), slD g.as]))] (fun mQ v h => ∃ (k25 : Nat) (f20 : (Nat → Int)), (k25 + mQ = g.as.length ∧ forN (blossom_odd_B3 g set_) mQ k25 f20 = some f24) ∧ v = [(29, .v (.int .i64 ((k25 : Nat) : Int))), (5, .ptr β2 12 0 0)] ∧ h = [.one β2 98 12 (arrC (α := Int) [] f20)]) g.as.length ⟨_, _, ⟨by omega, hl34⟩, rfl, rfl⟩ (EnvD.eq rfl (EnvD.eq rfl (EnvD.eq rfl (EnvD.eq rfl (EnvD.eq rfl (EnvD.eq rfl (EnvD.eq rfl (EnvD.eq rfl (EnvD.nil))))))))) (TkD.cons _ _ _ _ _ Rem.p0 (HLe.refl _) (TkD.cons _ _ _ _ _ Rem.p0 (HLe.st ⟨⟨trivial, DLe.refl _⟩, DLe.refl _⟩) (TkD.nil _))) ?_
 rintro m26 v h ⟨k25, f20, ⟨hkk25, hF22⟩, rfl, rfl⟩
 refine GoC.seq ?_
 refine GoC.region ?_
 refine GoO.pure (ps_lss rfl rfl rfl) ?_
 refine GoO.nil ?_
 refine GoK.code ?_
 refine GoC.seq ?_
 refine GoC.condD rfl (fun (hk25 : (k25 : Int) < ((g.as.length : Nat) : Int)) => ?_) (fun (hk25 : ¬ (k25 : Int) < ((g.as.length : Nat) : Int)) => ?_)
 obtain ⟨m26', rfl⟩ : ∃ x, m26 = x + 1 := ⟨m26 - 1, by omega⟩
 have hb := bind_l hF22; clear hF22
 obtain ⟨qrm26, H, hF22⟩ := hb
 have hnk25 : k25 < g.as.length := by omega
 have hIk25 : InI ((k25 : Int) + 1) := inI_len hk25 ml19
 refine GoC.skip ?_
 refine GoK.code ?_
 refine GoC.seq ?_
 refine GoC.block ?_
 refine GoC.seq ?_
 refine GoC.region ?_
 refine GoO.pure (ps_indexAddrRN rfl rfl hnk25 rfl) ?_
 refine GoO.pure (ps_loadAgR rfl hnk25 rfl rfl) ?_
 refine GoO.effB (ef_alloc rfl) (fun β27 => ?_)
 refine GoO.eff1 (ef_storeAg rfl rfl At.p0 upd_whole Nat.zero_lt_one rfl) ?_
 refine GoO.nil ?_
 refine GoK.code ?_
 refine GoC.seq ?_
 refine GoC.region ?_
 refine GoO.pure (ps_move rfl rfl) ?_
 refine GoO.pure (ps_fieldAddr rfl rfl) ?_
 refine GoO.pure (ps_load rfl At.p0 At.p0 Nat.zero_lt_one rfl rfl) ?_
 have c28 := ck_l H; replace H := ck_r H
 refine GoO.pure (ps_shr rfl rfl rfl c28) ?_
 refine GoO.pure (ps_and rfl rfl rfl) ?_
 refine GoO.pure (ps_eql rfl rfl rfl) ?_
 refine GoO.pure (ps_move rfl rfl) ?_
 refine GoO.guardD rfl rfl rfl rfl (fun h29 => ?_) (fun h29 => ?_)
 replace H := ite_t h29 H
 refine GoO.pure (ps_move rfl rfl) ?_
 refine GoO.guardT rfl rfl rfl ?_
 refine GoO.pure (ps_fieldAddr rfl rfl) ?_
 refine GoO.guardT rfl rfl rfl ?_
 refine GoO.pure (ps_load rfl At.p0 At.p0 Nat.zero_lt_one rfl rfl) ?_
 refine GoO.guardT rfl rfl rfl ?_
 have c30 := ck_l H; replace H := ck_r H
 refine GoO.pure (ps_shr rfl rfl rfl c30) ?_
 refine GoO.guardT rfl rfl rfl ?_
 refine GoO.pure (ps_and rfl rfl rfl) ?_
 refine GoO.guardT rfl rfl rfl ?_
 refine GoO.pure (ps_eql rfl rfl rfl) ?_
 refine GoO.pure (ps_pickT rfl rfl rfl) ?_
 refine GoO.nil ?_
 refine GoK.code ?_
 refine GoC.condD rfl (fun h31 => ?_) (fun h31 => ?_)
 replace H := ite_t h31 H
 refine GoC.seq ?_
 refine GoC.drawA (.q 0 (.q 1 (.q 2 (.q 3 (.q 4 (.q 5 (.q 6 (.q 7 (.q 8 (.q 9 (.done))))))))))) follows (by kernel_rfl) ?_
 refine GoP.qN rfl (ps_fieldAddr rfl rfl) ?_
 refine GoP.qN rfl (ps_load rfl At.p0 At.p0 Nat.zero_lt_one rfl rfl) ?_
 have c32 := ck_l H; replace H := ck_r H
 refine GoP.qN rfl (ps_indexAddrA rfl rfl c32 rfl) ?_
 refine GoP.qN rfl (ps_loadA (α := Int) (i := ((g.as.getD k25 El.d).f).toNat) (off := 0) rfl At.p1 At.p1 (by simp only [show El.size Int = 1 from rfl, List.length_cons, List.length_nil]; omega) (idx_lt (n := 12) c32) rfl rfl rfl) ?_
 refine GoP.qN rfl (ps_fieldAddr rfl rfl) ?_
 refine GoP.qN rfl (ps_load rfl At.p0 At.p0 Nat.zero_lt_one rfl rfl) ?_
 have c33 := ck_l H; replace H := ck_r H
 refine GoP.qN rfl (ps_indexAddrA rfl rfl c33 rfl) ?_
 refine GoP.qN rfl (ps_loadA (α := Int) (i := ((g.as.getD k25 El.d).t).toNat) (off := 0) rfl At.p1 At.p1 (by simp only [show El.size Int = 1 from rfl, List.length_cons, List.length_nil]; omega) (idx_lt (n := 12) c33) rfl rfl rfl) ?_
 refine GoP.qN rfl (ps_min rfl rfl rfl) ?_
 refine GoP.qN rfl (ps_assign rfl rfl) ?_
 refine GoP.done ?_
 refine GoK.code ?_
 refine GoC.drawP (.q 0 (.q 1 (.q 2 (.q 3 (.q 4 (.q 5 (.q 6 (.one 7 (.q 8 (.one 9 (.done))))))))))) [(8, _, _, _)] follows (by kernel_rfl) (Take.cons _ _ _ _ _ Rem.p0 (Take.nil _)) ?_
 refine GoP.qN rfl (ps_fieldAddr rfl rfl) ?_
 refine GoP.qN rfl (ps_load rfl At.p0 At.p0 Nat.zero_lt_one rfl rfl) ?_
 refine GoP.qN rfl (ps_fieldAddr rfl rfl) ?_
 refine GoP.qN rfl (ps_load rfl At.p0 At.p0 Nat.zero_lt_one rfl rfl) ?_
 refine GoP.qN rfl (ps_move rfl rfl) ?_
 refine GoP.qN rfl (ps_move rfl rfl) ?_
 refine GoP.qN rfl (ps_indexAddrA rfl rfl c32 rfl) ?_
 refine GoP.one1 rfl trivial (ef_store rfl rfl rfl At.p1 (upd_arr1 (α := Int) (i := ((g.as.getD k25 El.d).f).toNat) (v := (min (f20 (((g.as.getD k25 El.d).f).toNat)) (f20 (((g.as.getD k25 El.d).t).toNat)))) rfl (by simp only [show El.size Int = 1 from rfl, List.length_cons, List.length_nil]; omega) rfl) Nat.zero_lt_one (blt_of (arr_lt (α := Int) (pre := []) (i := ((g.as.getD k25 El.d).f).toNat) (off := 0) (by simp only [show El.size Int = 1 from rfl, List.length_cons, List.length_nil]; omega) (idx_lt (n := 12) c32) (by decide) rfl))) (Take.cons _ _ _ _ _ Rem.p1 (Take.cons _ _ _ _ _ Rem.p0 (Take.nil _))) ?_
 refine GoP.qN rfl (ps_indexAddrA rfl rfl c33 rfl) ?_
 refine GoP.one1 rfl trivial (ef_store rfl rfl rfl At.p1 (upd_arr1 (α := Int) (i := ((g.as.getD k25 El.d).t).toNat) (v := (min (f20 (((g.as.getD k25 El.d).f).toNat)) (f20 (((g.as.getD k25 El.d).t).toNat)))) rfl (by simp only [show El.size Int = 1 from rfl, List.length_cons, List.length_nil]; omega) rfl) Nat.zero_lt_one (blt_of (arr_lt (α := Int) (pre := []) (i := ((g.as.getD k25 El.d).t).toNat) (off := 0) (by simp only [show El.size Int = 1 from rfl, List.length_cons, List.length_nil]; omega) (idx_lt (n := 12) c33) (by decide) rfl))) (Take.cons _ _ _ _ _ Rem.p1 (Take.cons _ _ _ _ _ Rem.p0 (Take.nil _))) ?_
 refine GoP.done ?_
 refine GoK.blk ?_
 refine GoK.code ?_
 refine GoC.region ?_
 refine GoO.pure (ps_add rfl rfl rfl hIk25) ?_
 refine GoO.pure (ps_move rfl rfl) ?_
 refine GoO.nil ?_
 obtain rfl := Option.some.inj H
 exact GoK.againJ m26' (by omega) ⟨_, _, ⟨by omega, hF22⟩, rfl, rfl⟩ (EnvD.eq rfl (EnvD.eq rfl (EnvD.eq rfl (EnvD.eq rfl (EnvD.eq rfl (EnvD.eq rfl (EnvD.eq rfl (EnvD.eq rfl (EnvD.nil))))))))) (TkD.cons _ _ _ _ _ Rem.p1 (HLe.refl _) (TkD.cons _ _ _ _ _ Rem.p1 (HLe.st ⟨⟨trivial, DLe.refl _⟩, DLe.refl _⟩) (TkD.nil _)))
 replace H := ite_f h31 H
 refine GoC.skip ?_
 refine GoK.blk ?_
 refine GoK.code ?_
 refine GoC.region ?_
 refine GoO.pure (ps_add rfl rfl rfl hIk25) ?_
 refine GoO.pure (ps_move rfl rfl) ?_
 refine GoO.nil ?_
 obtain rfl := Option.some.inj H
 exact GoK.againJ m26' (by omega) ⟨_, _, ⟨by omega, hF22⟩, rfl, rfl⟩ (EnvD.eq rfl (EnvD.eq rfl (EnvD.eq rfl (EnvD.eq rfl (EnvD.eq rfl (EnvD.eq rfl (EnvD.eq rfl (EnvD.eq rfl (EnvD.nil))))))))) (TkD.cons _ _ _ _ _ Rem.p1 (HLe.refl _) (TkD.cons _ _ _ _ _ Rem.p1 (HLe.st ⟨⟨trivial, DLe.refl _⟩, DLe.refl _⟩) (TkD.nil _)))
 replace H := ite_f h29 H
 refine GoO.guardF rfl rfl rfl rfl ?_
 refine GoO.guardF rfl rfl rfl rfl ?_
 refine GoO.guardF rfl rfl rfl rfl ?_
 refine GoO.guardF rfl rfl rfl rfl ?_
 refine GoO.guardF rfl rfl rfl rfl ?_
 refine GoO.pure (ps_pickF rfl rfl rfl) ?_
 refine GoO.nil ?_
 refine GoK.code ?_
 refine GoC.condF rfl ?_
 refine GoC.skip ?_
 refine GoK.blk ?_
 refine GoK.code ?_
 refine GoC.region ?_
 refine GoO.pure (ps_add rfl rfl rfl hIk25) ?_
 refine GoO.pure (ps_move rfl rfl) ?_
 refine GoO.nil ?_
 obtain rfl := Option.some.inj H
 exact GoK.againJ m26' (by omega) ⟨_, _, ⟨by omega, hF22⟩, rfl, rfl⟩ (EnvD.eq rfl (EnvD.eq rfl (EnvD.eq rfl (EnvD.eq rfl (EnvD.eq rfl (EnvD.eq rfl (EnvD.eq rfl (EnvD.eq rfl (EnvD.nil))))))))) (TkD.cons _ _ _ _ _ Rem.p1 (HLe.refl _) (TkD.cons _ _ _ _ _ Rem.p1 (HLe.st ⟨⟨trivial, DLe.refl _⟩, DLe.refl _⟩) (TkD.nil _)))
 obtain rfl : m26 = 0 := by omega
 refine GoC.exit rfl ?_
 cases hF22
 exact GoK.meet ⟨rfl, rfl⟩ (EnvD.eq rfl (EnvD.eq rfl (EnvD.eq rfl (EnvD.eq rfl (EnvD.eq rfl (EnvD.nil)))))) (TkD.cons _ _ _ _ _ Rem.p0 (HLe.refl _) (TkD.cons _ _ _ _ _ Rem.p0 (HLe.st ⟨⟨trivial, DLe.refl _⟩, DLe.refl _⟩) (TkD.nil _)))
 rintro v h ⟨rfl, rfl⟩
 have H := HK21; clear HK21
 refine GoK.blk ?_
 refine GoK.code ?_
 refine GoC.region ?_
 refine GoO.pure (ps_add rfl rfl rfl hIk17) ?_
 refine GoO.pure (ps_move rfl rfl) ?_
 refine GoO.nil ?_
 obtain rfl := Option.some.inj H
 exact GoK.againJ m18' (by omega) ⟨_, _, ⟨by omega, hF14⟩, rfl, rfl⟩ (EnvD.eq rfl (EnvD.eq rfl (EnvD.eq rfl (EnvD.eq rfl (EnvD.eq rfl (EnvD.nil)))))) (TkD.cons _ _ _ _ _ Rem.p0 (HLe.refl _) (TkD.cons _ _ _ _ _ Rem.p0 (HLe.st ⟨⟨trivial, DLe.refl _⟩, DLe.refl _⟩) (TkD.nil _)))
 obtain rfl : m18 = 0 := by omega
 refine GoC.exit rfl ?_
 cases hF14
 exact GoK.meet ⟨rfl, rfl⟩ (EnvD.eq rfl (EnvD.eq rfl (EnvD.eq rfl (EnvD.nil)))) (TkD.cons _ _ _ _ _ Rem.p0 (HLe.refl _) (TkD.cons _ _ _ _ _ Rem.p0 (HLe.st ⟨⟨trivial, DLe.refl _⟩, DLe.refl _⟩) (TkD.nil _)))
 rintro v h ⟨rfl, rfl⟩
 have H := HK13; clear HK13
 refine GoK.code ?_
 refine GoC.seq ?_
 refine GoC.region ?_
 refine GoO.effB (ef_alloc rfl) (fun β36 => ?_)
 refine GoO.le (Le.reH At.p0 (HLe.arr (α := Int) (pre := []) (g := fun _ => (0 : Int)) ⟨⟨⟨⟨⟨⟨⟨⟨⟨⟨⟨⟨trivial, DLe.refl _⟩, DLe.refl _⟩, DLe.refl _⟩, DLe.refl _⟩, DLe.refl _⟩, DLe.refl _⟩, DLe.refl _⟩, DLe.refl _⟩, DLe.refl _⟩, DLe.refl _⟩, DLe.refl _⟩, DLe.refl _⟩)) ?_
 refine GoO.nil ?_
 refine GoK.code ?_
 refine GoC.seq ?_
 refine GoC.seq ?_
 refine GoC.region ?_
 refine GoO.pure (ps_fieldAddr rfl rfl) ?_
 refine GoO.pure (ps_load rfl At.p2 At.p2 Nat.zero_lt_one rfl rfl) ?_
 refine GoO.pure (ps_move rfl rfl) ?_
 refine GoO.nil ?_
 refine GoK.code ?_
 have hb := bind_l H; clear H
 obtain ⟨f41, hl48, HK38⟩ := hb
 refine GoC.blockJ [] [.one β2 98 12 (arrC (α := Int) [] f16), .one β1 33 2 (st1 (nth [.v (.int .i64 g.n), slD g.as]))] (fun v h => v = [(10, .ptr β36 12 0 0)] ∧ h = [.one β36 98 12 (arrC (α := Int) [] f41)]) ?_ ?_
 refine GoC.loopJ [(1, _), (5, _), (67, _)] [.one β2 98 12 (arrC (α := Int) [] f16), .one β1 33 2 (st1 (nth [.v (.int .i64 g.n), slD g.as]))] (fun mQ v h => ∃ (k42 : Nat) (f37 : (Nat → Int)), (k42 + mQ = g.n.toNat ∧ forN (blossom_odd_B4 set_ f16) mQ k42 f37 = some f41) ∧ v = [(68, .v (.int .i64 ((k42 : Nat) : Int))), (10, .ptr β36 12 0 0)] ∧ h = [.one β36 98 12 (arrC (α := Int) [] f37)]) g.n.toNat ⟨_, _, ⟨by omega, hl48⟩, rfl, rfl⟩ (EnvD.eq rfl (EnvD.eq rfl (EnvD.eq rfl (EnvD.eq rfl (EnvD.eq rfl (EnvD.nil)))))) (TkD.cons _ _ _ _ _ Rem.p0 (HLe.refl _) (TkD.cons _ _ _ _ _ Rem.p0 (HLe.refl _) (TkD.cons _ _ _ _ _ Rem.p0 (HLe.st ⟨⟨trivial, DLe.refl _⟩, DLe.refl _⟩) (TkD.nil _)))) ?_
 rintro m43 v h ⟨k42, f37, ⟨hkk42, hF39⟩, rfl, rfl⟩
 refine GoC.seq ?_
 refine GoC.region ?_
 refine GoO.pure (ps_lss rfl rfl rfl) ?_
 refine GoO.nil ?_
 refine GoK.code ?_
 refine GoC.seq ?_
 refine GoC.condD rfl (fun (hk42 : (k42 : Int) < g.n) => ?_) (fun (hk42 : ¬ (k42 : Int) < g.n) => ?_)
 obtain ⟨m43', rfl⟩ : ∃ x, m43 = x + 1 := ⟨m43 - 1, by omega⟩
 have hb := bind_l hF39; clear hF39
 obtain ⟨qrm43, H, hF39⟩ := hb
 have hnk42 : k42 < g.n.toNat := by omega
 have hIk42 : InI ((k42 : Int) + 1) := inI_cnt hk42 c11
 refine GoC.skip ?_
 refine GoK.code ?_
 refine GoC.seq ?_
 refine GoC.block ?_
 refine GoC.seq ?_
 refine GoC.region ?_
 refine GoO.pure (ps_move rfl rfl) ?_
 refine GoO.pure (ps_assign rfl rfl) ?_
 refine GoO.nil ?_
 refine GoK.code ?_
 refine GoC.seq ?_
 refine GoC.region ?_
 refine GoO.pure (ps_move rfl rfl) ?_
 refine GoO.pure (ps_move rfl rfl) ?_
 refine GoO.pure (ps_shr rfl rfl rfl (by omega)) ?_
 refine GoO.pure (ps_and rfl rfl rfl) ?_
 refine GoO.pure (ps_eql rfl rfl rfl) ?_
 refine GoO.nil ?_
 refine GoK.code ?_
 refine GoC.condD rfl (fun h44 => ?_) (fun h44 => ?_)
 replace H := ite_t h44 H
 refine GoC.region ?_
 refine GoO.pure (ps_move rfl rfl) ?_
 have c45 := ck_l H; replace H := ck_r H
 refine GoO.pure (ps_indexAddrA rfl rfl ⟨Int.natCast_nonneg _, Int.ofNat_lt.2 c45⟩ rfl) ?_
 refine GoO.pure (ps_loadA (α := Int) (i := k42) (off := 0) rfl At.p1 At.p1 (by simp only [show El.size Int = 1 from rfl, List.length_cons, List.length_nil]; omega) c45 rfl rfl rfl) ?_
 have c46 := ck_l H; replace H := ck_r H
 refine GoO.pure (ps_indexAddrA rfl rfl c46 rfl) ?_
 refine GoO.pure (ps_loadA (α := Int) (i := (f16 k42).toNat) (off := 0) rfl At.p0 At.p0 (by simp only [show El.size Int = 1 from rfl, List.length_cons, List.length_nil]; omega) (idx_lt (n := 12) c46) rfl rfl rfl) ?_
 have c47 := ck_l H; replace H := ck_r H
 refine GoO.pure (ps_add rfl rfl rfl c47) ?_
 refine GoO.pure (ps_indexAddrA rfl rfl c46 rfl) ?_
 refine GoO.eff1 (ef_store rfl rfl rfl At.p0 (upd_arr1 (α := Int) (i := (f16 k42).toNat) (v := ((f37 ((f16 k42).toNat)) + 1)) rfl (by simp only [show El.size Int = 1 from rfl, List.length_cons, List.length_nil]; omega) rfl) Nat.zero_lt_one (blt_of (arr_lt (α := Int) (pre := []) (i := (f16 k42).toNat) (off := 0) (by simp only [show El.size Int = 1 from rfl, List.length_cons, List.length_nil]; omega) (idx_lt (n := 12) c46) (by decide) rfl))) ?_
 refine GoO.nil ?_
 refine GoK.blk ?_
 refine GoK.code ?_
 refine GoC.region ?_
 refine GoO.pure (ps_add rfl rfl rfl hIk42) ?_
 refine GoO.pure (ps_move rfl rfl) ?_
 refine GoO.nil ?_
 obtain rfl := Option.some.inj H
 exact GoK.againJ m43' (by omega) ⟨_, _, ⟨by omega, hF39⟩, rfl, rfl⟩ (EnvD.eq rfl (EnvD.eq rfl (EnvD.eq rfl (EnvD.eq rfl (EnvD.eq rfl (EnvD.nil)))))) (TkD.cons _ _ _ _ _ Rem.p0 (HLe.refl _) (TkD.cons _ _ _ _ _ Rem.p0 (HLe.refl _) (TkD.cons _ _ _ _ _ Rem.p0 (HLe.st ⟨⟨trivial, DLe.refl _⟩, DLe.refl _⟩) (TkD.nil _))))
 replace H := ite_f h44 H
 refine GoC.skip ?_
 refine GoK.blk ?_
 refine GoK.code ?_
 refine GoC.region ?_
 refine GoO.pure (ps_add rfl rfl rfl hIk42) ?_
 refine GoO.pure (ps_move rfl rfl) ?_
 refine GoO.nil ?_
 obtain rfl := Option.some.inj H
 exact GoK.againJ m43' (by omega) ⟨_, _, ⟨by omega, hF39⟩, rfl, rfl⟩ (EnvD.eq rfl (EnvD.eq rfl (EnvD.eq rfl (EnvD.eq rfl (EnvD.eq rfl (EnvD.nil)))))) (TkD.cons _ _ _ _ _ Rem.p0 (HLe.refl _) (TkD.cons _ _ _ _ _ Rem.p0 (HLe.refl _) (TkD.cons _ _ _ _ _ Rem.p0 (HLe.st ⟨⟨trivial, DLe.refl _⟩, DLe.refl _⟩) (TkD.nil _))))
 obtain rfl : m43 = 0 := by omega
 refine GoC.exit rfl ?_
 cases hF39
 exact GoK.meet ⟨rfl, rfl⟩ (EnvD.eq rfl (EnvD.nil)) (TkD.cons _ _ _ _ _ Rem.p0 (HLe.refl _) (TkD.cons _ _ _ _ _ Rem.p0 (HLe.refl _) (TkD.cons _ _ _ _ _ Rem.p0 (HLe.st ⟨⟨trivial, DLe.refl _⟩, DLe.refl _⟩) (TkD.nil _))))
 rintro v h ⟨rfl, rfl⟩
 have H := HK38; clear HK38
 refine GoK.code ?_
 refine GoC.seq ?_
 refine GoC.region ?_
 refine GoO.pure (ps_assign rfl rfl) ?_
 refine GoO.nil ?_
 refine GoK.code ?_
 refine GoC.seq ?_
 refine GoC.seq ?_
 refine GoC.region ?_
 refine GoO.pure (ps_loadAg rfl At.p0 At.p0 Nat.zero_lt_one rfl rfl) ?_
 refine GoO.le (Le.re 84 rfl (DLe.arrV (α := Int) (g := f41))) ?_
 refine GoO.pure (ps_move rfl rfl) ?_
 refine GoO.nil ?_
 refine GoK.code ?_
 have hb := bind_l H; clear H
 obtain ⟨x53, hl57, HK50⟩ := hb
 refine GoC.blockJ [] [.one β36 98 12 (arrC (α := Int) [] f41), .one β2 98 12 (arrC (α := Int) [] f16), .one β1 33 2 (st1 (nth [.v (.int .i64 g.n), slD g.as]))] (fun v h => v = [(12, .v (.int .i64 x53))] ∧ h = []) ?_ ?_
 refine GoC.loopJ [(84, _)] [.one β36 98 12 (arrC (α := Int) [] f41), .one β2 98 12 (arrC (α := Int) [] f16), .one β1 33 2 (st1 (nth [.v (.int .i64 g.n), slD g.as]))] (fun mQ v h => ∃ (k54 : Nat) (x49 : Int), (k54 + mQ = 12 ∧ forN (blossom_odd_B5 f41) mQ k54 x49 = some x53) ∧ v = [(85, .v (.int .i64 ((k54 : Nat) : Int))), (12, .v (.int .i64 x49))] ∧ h = []) 12 ⟨_, _, ⟨by omega, hl57⟩, rfl, rfl⟩ (EnvD.eq rfl (EnvD.eq rfl (EnvD.eq rfl (EnvD.nil)))) (TkD.cons _ _ _ _ _ Rem.p0 (HLe.refl _) (TkD.cons _ _ _ _ _ Rem.p0 (HLe.refl _) (TkD.cons _ _ _ _ _ Rem.p0 (HLe.st ⟨⟨trivial, DLe.refl _⟩, DLe.refl _⟩) (TkD.nil _)))) ?_
 rintro m55 v h ⟨k54, x49, ⟨hkk54, hF51⟩, rfl, rfl⟩
 refine GoC.seq ?_
 refine GoC.region ?_
 refine GoO.pure (ps_lss rfl rfl rfl) ?_
 refine GoO.nil ?_
 refine GoK.code ?_
 refine GoC.seq ?_
 refine GoC.condD rfl (fun (hk54 : (k54 : Int) < ((12 : Nat) : Int)) => ?_) (fun (hk54 : ¬ (k54 : Int) < ((12 : Nat) : Int)) => ?_)
 obtain ⟨m55', rfl⟩ : ∃ x, m55 = x + 1 := ⟨m55 - 1, by omega⟩
 have hb := bind_l hF51; clear hF51
 obtain ⟨qrm55, H, hF51⟩ := hb
 have hnk54 : k54 < 12 := by omega
 have hIk54 : InI ((k54 : Int) + 1) := inI_cnt hk54 (by unfold InI; omega)
 refine GoC.skip ?_
 refine GoK.code ?_
 refine GoC.seq ?_
 refine GoC.block ?_
 refine GoC.seq ?_
 refine GoC.region ?_
 refine GoO.pure (ps_indexV (α := Int) rfl rfl ⟨Int.natCast_nonneg _, Int.ofNat_lt.2 hnk54⟩ rfl rfl rfl) ?_
 refine GoO.pure (ps_assign rfl rfl) ?_
 refine GoO.nil ?_
 refine GoK.code ?_
 refine GoC.region ?_
 refine GoO.pure (ps_move rfl rfl) ?_
 refine GoO.pure (ps_move rfl rfl) ?_
 refine GoO.pure (ps_rem rfl rfl rfl (by decide)) ?_
 have c56 := ck_l H; replace H := ck_r H
 refine GoO.pure (ps_add rfl rfl rfl c56) ?_
 refine GoO.pure (ps_assign rfl rfl) ?_
 refine GoO.nil ?_
 refine GoK.blk ?_
 refine GoK.code ?_
 refine GoC.region ?_
 refine GoO.pure (ps_add rfl rfl rfl hIk54) ?_
 refine GoO.pure (ps_move rfl rfl) ?_
 refine GoO.nil ?_
 obtain rfl := Option.some.inj H
 exact GoK.againJ m55' (by omega) ⟨_, _, ⟨by omega, hF51⟩, rfl, rfl⟩ (EnvD.eq rfl (EnvD.eq rfl (EnvD.eq rfl (EnvD.nil)))) (TkD.cons _ _ _ _ _ Rem.p0 (HLe.refl _) (TkD.cons _ _ _ _ _ Rem.p0 (HLe.refl _) (TkD.cons _ _ _ _ _ Rem.p0 (HLe.st ⟨⟨trivial, DLe.refl _⟩, DLe.refl _⟩) (TkD.nil _))))
 obtain rfl : m55 = 0 := by omega
 refine GoC.exit rfl ?_
 cases hF51
 exact GoK.meet ⟨rfl, rfl⟩ (EnvD.eq rfl (EnvD.nil)) (TkD.cons _ _ _ _ _ Rem.p0 (HLe.refl _) (TkD.cons _ _ _ _ _ Rem.p0 (HLe.refl _) (TkD.cons _ _ _ _ _ Rem.p0 (HLe.st ⟨⟨trivial, DLe.refl _⟩, DLe.refl _⟩) (TkD.nil _))))
 rintro v h ⟨rfl, rfl⟩
 have H := HK50; clear HK50
 refine GoK.code ?_
 refine GoC.seq ?_
 refine GoC.region ?_
 refine GoO.pure (ps_move rfl rfl) ?_
 refine GoO.pure (ps_assign rfl rfl) ?_
 refine GoO.nil ?_
 refine GoK.code ?_
 obtain rfl := Option.some.inj H
 exact GoC.retL (ds := [.v (.int .i64 x53)]) Try.results62 (ResL.cons (ResD.tmp rfl) (ResL.nil)) (Take.nil _) ⟨rfl, rfl⟩

def blossom_Bar_B1 (g : Graph) (r5 : (List Int)) : Nat → Unit → Option (Ct (Unit) (Int × Int)) := fun k13 _ =>
 ck (InI ((IntKind.i64.wrap (1 * 2 ^ min g.n.toNat 64)) - 1)) <|
 ck (0 ≤ ((IntKind.i64.wrap (1 * 2 ^ min g.n.toNat 64)) - 1) ∧ ((IntKind.i64.wrap (1 * 2 ^ min g.n.toNat 64)) - 1) < ((r5.length : Nat) : Int)) <|
 ck (InI (2 * (r5.getD (((IntKind.i64.wrap (1 * 2 ^ min g.n.toNat 64)) - 1).toNat) (0 : Int)))) <|
 (blossom_ones_F ((k13 : Nat) : Int)).bind fun r18 =>
 ck (InI (g.n + r18)) <|
 (blossom_odd_F g ((k13 : Nat) : Int)).bind fun r21 =>
 ck (InI ((g.n + r18) - r21)) <|
 if (2 * (r5.getD (((IntKind.i64.wrap (1 * 2 ^ min g.n.toNat 64)) - 1).toNat) (0 : Int))) = ((g.n + r18) - r21) then
  some (.ret ((IntKind.u16.wrap ((k13 : Nat) : Int)), 0))
 else
  some (.go ())
def blossom_Bar_F (g : Graph) : Option (Int × Int) :=
 (blossom_Check_F g).bind fun r2 =>
 if r2 ≠ 0 then
  some (0, r2)
 else
  (blossom_most_F g).bind fun r5 =>
  ck (0 ≤ g.n) <|
  ck (InI (IntKind.i64.wrap (1 * 2 ^ min g.n.toNat 64))) <|
  (forC (blossom_Bar_B1 g r5) ((IntKind.i64.wrap (1 * 2 ^ min g.n.toNat 64)).toNat) 0 ()).bind fun q => match q with
  | .go _ =>
   some (0, 5)
  | .ret x => some x
def blossom_Bar_P (out : Int × Int) (d : D) (H : List HL) : Prop := d = .tp 2 (nth [.v (.int .u16 out.1), .v (.int .i64 out.2)]) ∧ H = []
theorem blossom_Bar_I (out : Int × Int) : IndepP (blossom_Bar_P out) := IndepP.of (by rintro _ _ ⟨rfl, rfl⟩; exact ⟨inferInstance, inferInstance⟩)
set_option maxRecDepth 100000 in
set_option maxHeartbeats 4000000 in
theorem blossom_Bar_spec (g : Graph) {out : Int × Int} (H : blossom_Bar_F g = some out) : Does Try.prog 27 [.ag 2 (nth [.v (.int .i64 g.n), slD g.as])] [] (blossom_Bar_P out) := by
 unfold blossom_Bar_F at H
 refine Does.intro Try.func27 rfl Try.ntmps27 rfl fun w0 I0 => ?_
 refine GoC.seq ?_
 refine GoC.region ?_
 refine GoO.effB (ef_boxAg rfl rfl) (fun β1 => ?_)
 refine GoO.pure (ps_assign rfl rfl) ?_
 refine GoO.pure (ps_assign rfl rfl) ?_
 refine GoO.nil ?_
 refine GoK.code ?_
 refine GoC.seq ?_
 refine GoC.seq ?_
 refine GoC.region ?_
 refine GoO.pure (ps_loadAg rfl At.p0 At.p0 Nat.zero_lt_one rfl rfl) ?_
 have hb := bind_l H; clear H
 obtain ⟨r2, e3, H⟩ := hb
 refine GoO.effC (ef_call rfl (Take.nil _) (Take.nil _) (blossom_Check_spec g e3) (LendL.cons (Lend.agA ⟨⟨trivial, Lend.refl _ _⟩, Lend.refl _ _⟩) (LendL.nil)) rfl (blossom_Check_I (r2))) (fun rr HH hp => ?_)
 obtain ⟨rfl, rfl⟩ := hp
 refine GoO.pure (ps_assign rfl rfl) ?_
 refine GoO.nil ?_
 refine GoK.code ?_
 refine GoC.seq ?_
 refine GoC.region ?_
 refine GoO.pure (ps_move rfl rfl) ?_
 refine GoO.pure (ps_neq rfl rfl rfl) ?_
 refine GoO.nil ?_
 refine GoK.code ?_
 refine GoC.condD rfl (fun h4 => ?_) (fun h4 => ?_)
 replace H := ite_t h4 H
 refine GoC.seq ?_
 refine GoC.region ?_
 refine GoO.pure (ps_move rfl rfl) ?_
 refine GoO.pure (ps_assign rfl rfl) ?_
 refine GoO.pure (ps_assign rfl rfl) ?_
 refine GoO.nil ?_
 refine GoK.code ?_
 obtain rfl := Option.some.inj H
 exact GoC.retL (ds := [.v (.int .u16 0), .v (.int .i64 r2)]) Try.results27 (ResL.cons (ResD.tmp rfl) (ResL.cons (ResD.tmp rfl) (ResL.nil))) (Take.nil _) ⟨rfl, rfl⟩
 replace H := ite_f h4 H
 refine GoC.skip ?_
 refine GoK.code ?_
 refine GoC.seq ?_
 refine GoC.region ?_
 refine GoO.pure (ps_loadAg rfl At.p0 At.p0 Nat.zero_lt_one rfl rfl) ?_
 have hb := bind_l H; clear H
 obtain ⟨r5, e7, H⟩ := hb
 refine GoO.effC (ef_call rfl (Take.nil _) (Take.nil _) (blossom_most_spec g e7) (LendL.cons (Lend.agA ⟨⟨trivial, Lend.refl _ _⟩, Lend.refl _ _⟩) (LendL.nil)) rfl (blossom_most_I (r5))) (fun rr HH hp => ?_)
 obtain ⟨β6, rfl, rfl⟩ := hp
 refine GoO.pure (ps_assign rfl rfl) ?_
 refine GoO.nil ?_
 refine GoK.code ?_
 refine GoC.seq ?_
 refine GoC.seq ?_
 refine GoC.region ?_
 refine GoO.pure (ps_fieldAddr rfl rfl) ?_
 refine GoO.pure (ps_load rfl At.p1 At.p1 Nat.zero_lt_one rfl rfl) ?_
 have c8 := ck_l H; replace H := ck_r H
 refine GoO.pure (ps_shl rfl rfl rfl c8) ?_
 refine GoO.pure (ps_move rfl rfl) ?_
 refine GoO.nil ?_
 refine GoK.code ?_
 have c9 := ck_l H; replace H := ck_r H
 have hb := bind_l H; clear H
 obtain ⟨q12, hl25, HK10⟩ := hb
 refine GoC.blockJ [] [.one β6 3 1 (row r5), .one β1 33 2 (st1 (nth [.v (.int .i64 g.n), slD g.as]))] (fun v h => q12 = .go () ∧ v = [] ∧ h = []) ?_ ?_
 refine GoC.loopJ [(1, _), (5, _), (16, _)] [.one β6 3 1 (row r5), .one β1 33 2 (st1 (nth [.v (.int .i64 g.n), slD g.as]))] (fun mQ v h => ∃ (k13 : Nat), (k13 + mQ = (IntKind.i64.wrap (1 * 2 ^ min g.n.toNat 64)).toNat ∧ forC (blossom_Bar_B1 g r5) mQ k13 () = some q12) ∧ v = [(17, .v (.int .i64 ((k13 : Nat) : Int)))] ∧ h = []) ((IntKind.i64.wrap (1 * 2 ^ min g.n.toNat 64)).toNat) ⟨_, ⟨by omega, hl25⟩, rfl, rfl⟩ (EnvD.eq rfl (EnvD.eq rfl (EnvD.eq rfl (EnvD.eq rfl (EnvD.nil))))) (TkD.cons _ _ _ _ _ Rem.p0 (HLe.refl _) (TkD.cons _ _ _ _ _ Rem.p0 (HLe.st ⟨⟨trivial, DLe.refl _⟩, DLe.refl _⟩) (TkD.nil _))) ?_
 rintro m14 v h ⟨k13, ⟨hkk13, hF11⟩, rfl, rfl⟩
 refine GoC.seq ?_
 refine GoC.region ?_
 refine GoO.pure (ps_lss rfl rfl rfl) ?_
 refine GoO.nil ?_
 refine GoK.code ?_
 refine GoC.seq ?_
 refine GoC.condD rfl (fun (hk13 : (k13 : Int) < (IntKind.i64.wrap (1 * 2 ^ min g.n.toNat 64))) => ?_) (fun (hk13 : ¬ (k13 : Int) < (IntKind.i64.wrap (1 * 2 ^ min g.n.toNat 64))) => ?_)
 obtain ⟨m14', rfl⟩ : ∃ x, m14 = x + 1 := ⟨m14 - 1, by omega⟩
 have hb := bind_l hF11; clear hF11
 obtain ⟨qrm14, H, hF11⟩ := hb
 have hnk13 : k13 < (IntKind.i64.wrap (1 * 2 ^ min g.n.toNat 64)).toNat := by omega
 have hIk13 : InI ((k13 : Int) + 1) := inI_cnt hk13 c9
 refine GoC.skip ?_
 refine GoK.code ?_
 refine GoC.seq ?_
 refine GoC.block ?_
 refine GoC.seq ?_
 refine GoC.region ?_
 refine GoO.pure (ps_move rfl rfl) ?_
 refine GoO.pure (ps_assign rfl rfl) ?_
 refine GoO.nil ?_
 refine GoK.code ?_
 refine GoC.seq ?_
 refine GoC.drawA (.q 0 (.q 1 (.q 2 (.q 3 (.q 4 (.q 5 (.q 6 (.q 7 (.q 8 (.q 9 (.q 10 (.q 13 (.q 14 (.one 11 (.q 12 (.one 15 (.q 16 (.q 17 (.done))))))))))))))))))) follows (by kernel_rfl) ?_
 refine GoP.qN rfl (ps_move rfl rfl) ?_
 refine GoP.qN rfl (ps_fieldAddr rfl rfl) ?_
 refine GoP.qN rfl (ps_load rfl At.p1 At.p1 Nat.zero_lt_one rfl rfl) ?_
 refine GoP.qN rfl (ps_shl rfl rfl rfl c8) ?_
 have c15 := ck_l H; replace H := ck_r H
 refine GoP.qN rfl (ps_sub rfl rfl rfl c15) ?_
 have c16 := ck_l H; replace H := ck_r H
 refine GoP.qN rfl (ps_indexAddr0 rfl rfl c16 rfl) ?_
 refine GoP.qN rfl (ps_load rfl At.p0 At.p0 (idx_lt c16) rfl rfl) ?_
 have c17 := ck_l H; replace H := ck_r H
 refine GoP.qN rfl (ps_mul rfl rfl rfl c17) ?_
 refine GoP.qN rfl (ps_fieldAddr rfl rfl) ?_
 refine GoP.qN rfl (ps_load rfl At.p1 At.p1 Nat.zero_lt_one rfl rfl) ?_
 refine GoP.qN rfl (ps_move rfl rfl) ?_
 refine GoP.qN rfl (ps_loadAg rfl At.p1 At.p1 Nat.zero_lt_one rfl rfl) ?_
 refine GoP.qN rfl (ps_move rfl rfl) ?_
 have hb := bind_l H; clear H
 obtain ⟨r18, e19, H⟩ := hb
 refine GoP.oneC rfl trivial (ef_call rfl (Take.nil _) (Take.nil _) (blossom_ones_spec ((k13 : Nat) : Int) e19) (LendL.cons (Lend.refl _ _) (LendL.nil)) rfl (blossom_ones_I (r18))) (Take.cons _ _ _ _ _ Rem.p0 (Take.cons _ _ _ _ _ Rem.p0 (Take.nil _))) (fun rr HH hp => ?_)
 obtain ⟨rfl, rfl⟩ := hp
 have c20 := ck_l H; replace H := ck_r H
 refine GoP.qN rfl (ps_add rfl rfl rfl c20) ?_
 have hb := bind_l H; clear H
 obtain ⟨r21, e22, H⟩ := hb
 refine GoP.oneC rfl trivial (ef_call rfl (Take.nil _) (Take.nil _) (blossom_odd_spec g ((k13 : Nat) : Int) e22) (LendL.cons (Lend.agA ⟨⟨trivial, Lend.refl _ _⟩, Lend.refl _ _⟩) (LendL.cons (Lend.refl _ _) (LendL.nil))) rfl (blossom_odd_I (r21))) (Take.cons _ _ _ _ _ Rem.p0 (Take.cons _ _ _ _ _ Rem.p0 (Take.nil _))) (fun rr HH hp => ?_)
 obtain ⟨rfl, rfl⟩ := hp
 have c23 := ck_l H; replace H := ck_r H
 refine GoP.qN rfl (ps_sub rfl rfl rfl c23) ?_
 refine GoP.qN rfl (ps_eql rfl rfl rfl) ?_
 refine GoP.done ?_
 refine GoK.code ?_
 refine GoC.condD rfl (fun h24 => ?_) (fun h24 => ?_)
 replace H := ite_t h24 H
 refine GoC.seq ?_
 refine GoC.region ?_
 refine GoO.pure (ps_move rfl rfl) ?_
 refine GoO.pure (ps_convK rfl rfl) ?_
 refine GoO.pure (ps_assign rfl rfl) ?_
 refine GoO.pure (ps_assign rfl rfl) ?_
 refine GoO.nil ?_
 refine GoK.code ?_
 obtain rfl := Option.some.inj H
 obtain rfl := Option.some.inj hF11
 obtain rfl := Option.some.inj HK10
 exact GoC.retL (ds := [.v (.int .u16 (IntKind.u16.wrap ((k13 : Nat) : Int))), .v (.int .i64 0)]) Try.results27 (ResL.cons (ResD.tmp rfl) (ResL.cons (ResD.tmp rfl) (ResL.nil))) (Take.nil _) ⟨rfl, rfl⟩
 replace H := ite_f h24 H
 refine GoC.skip ?_
 refine GoK.blk ?_
 refine GoK.code ?_
 refine GoC.region ?_
 refine GoO.pure (ps_add rfl rfl rfl hIk13) ?_
 refine GoO.pure (ps_move rfl rfl) ?_
 refine GoO.nil ?_
 obtain rfl := Option.some.inj H
 exact GoK.againJ m14' (by omega) ⟨_, ⟨by omega, hF11⟩, rfl, rfl⟩ (EnvD.eq rfl (EnvD.eq rfl (EnvD.eq rfl (EnvD.eq rfl (EnvD.nil))))) (TkD.cons _ _ _ _ _ Rem.p0 (HLe.refl _) (TkD.cons _ _ _ _ _ Rem.p0 (HLe.st ⟨⟨trivial, DLe.refl _⟩, DLe.refl _⟩) (TkD.nil _)))
 obtain rfl : m14 = 0 := by omega
 refine GoC.exit rfl ?_
 cases hF11
 exact GoK.meet ⟨rfl, rfl, rfl⟩ (EnvD.nil) (TkD.cons _ _ _ _ _ Rem.p0 (HLe.refl _) (TkD.cons _ _ _ _ _ Rem.p0 (HLe.st ⟨⟨trivial, DLe.refl _⟩, DLe.refl _⟩) (TkD.nil _)))
 rintro v h ⟨rfl, rfl, rfl⟩
 have H := HK10; clear HK10
 refine GoK.code ?_
 refine GoC.seq ?_
 refine GoC.region ?_
 refine GoO.pure (ps_assign rfl rfl) ?_
 refine GoO.pure (ps_assign rfl rfl) ?_
 refine GoO.nil ?_
 refine GoK.code ?_
 obtain rfl := Option.some.inj H
 exact GoC.retL (ds := [.v (.int .u16 0), .v (.int .i64 5)]) Try.results27 (ResL.cons (ResD.tmp rfl) (ResL.cons (ResD.tmp rfl) (ResL.nil))) (Take.nil _) ⟨rfl, rfl⟩

end Go.Proofs.Ytdpkdicciclobaa
