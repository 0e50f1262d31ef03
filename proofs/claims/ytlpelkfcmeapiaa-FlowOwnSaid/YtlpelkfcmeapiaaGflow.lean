/- The functions flow.Check, flow.Value, flow.amount, flow.piece, flow.take, flow.Split, told as plain functions, and that the code does as they say. -/
import Derived.Test.YtlpelkfcmeapiaaTys
import Derived.Test.YtlpelkfcmeapiaaDat
import Derived.Test.YtlpelkfcmeapiaaGgraph
import Derived.Test.YtlpelkfcmeapiaaGslices
namespace Go.Proofs.Ytlpelkfcmeapiaa
open Go Go.Proofs.Ytlpelkfcmeapiaa.Sx
set_option linter.unusedVariables false
set_option linter.unusedSimpArgs false
def flow_Check_B1 (n : Net) (f : (List Int)) : Nat → (Nat → Int) → Option (Ct ((Nat → Int)) (Int)) := fun k14 f9 =>
 if (f.getD k14 (0 : Int)) < 0 then
  some (.ret 7)
 else
  ck (k14 < n.as.length) <|
  if ((n.as.getD k14 El.d).c) < (f.getD k14 (0 : Int)) then
   some (.ret 7)
  else
   ck (0 ≤ (n.as.getD k14 El.d).f ∧ (n.as.getD k14 El.d).f < 12) <|
   ck (InI ((f9 (((n.as.getD k14 El.d).f).toNat)) - (f.getD k14 (0 : Int)))) <|
   ck (0 ≤ (n.as.getD k14 El.d).t ∧ (n.as.getD k14 El.d).t < 12) <|
   ck (InI (((updF f9 (((n.as.getD k14 El.d).f).toNat) ((f9 (((n.as.getD k14 El.d).f).toNat)) - (f.getD k14 (0 : Int)))) (((n.as.getD k14 El.d).t).toNat)) + (f.getD k14 (0 : Int)))) <|
   some (.go (updF (updF f9 (((n.as.getD k14 El.d).f).toNat) ((f9 (((n.as.getD k14 El.d).f).toNat)) - (f.getD k14 (0 : Int)))) (((n.as.getD k14 El.d).t).toNat) (((updF f9 (((n.as.getD k14 El.d).f).toNat) ((f9 (((n.as.getD k14 El.d).f).toNat)) - (f.getD k14 (0 : Int)))) (((n.as.getD k14 El.d).t).toNat)) + (f.getD k14 (0 : Int)))))
def flow_Check_B2 (n : Net) (f13 : (Nat → Int)) : Nat → Unit → Option (Ct (Unit) (Int)) := fun k27 _ =>
 if (f13 k27) ≠ 0 then
  if ((k27 : Nat) : Int) ≠ n.s then
   if ((k27 : Nat) : Int) ≠ n.t then
    some (.ret 8)
   else
    some (.go ())
  else
   some (.go ())
 else
  some (.go ())
def flow_Check_F (n : Net) (f : (List Int)) : Option (Int) :=
 (graph_CheckNet_F n).bind fun r2 =>
 if r2 ≠ 0 then
  some r2
 else
  if ((f.length : Nat) : Int) ≠ ((n.as.length : Nat) : Int) then
   some 3
  else
   (forC (flow_Check_B1 n f) f.length 0 (fun _ => (0 : Int) : Nat → Int)).bind fun q => match q with
   | .go f13 =>
    (forC (flow_Check_B2 n f13) 12 0 ()).bind fun q => match q with
    | .go _ =>
     some 0
    | .ret x => some x
   | .ret x => some x
def flow_Check_P (out : Int) (d : D) (H : List HL) : Prop := d = .v (.int .i64 out) ∧ H = []
theorem flow_Check_I (out : Int) : IndepP (flow_Check_P out) := IndepP.of (by rintro _ _ ⟨rfl, rfl⟩; exact ⟨inferInstance, inferInstance⟩)
set_option maxRecDepth 100000 in
set_option maxHeartbeats 4000000 in
theorem flow_Check_spec (n : Net) (f : (List Int)) {out : Int} (H : flow_Check_F n f = some out) : Does Try.prog 74 [.ag 4 (nth [.v (.int .i64 n.n), .v (.int .i64 n.s), .v (.int .i64 n.t), slD n.as]), slD f] [] (flow_Check_P out) := by
 unfold flow_Check_F at H
 refine Does.intro Try.func74 rfl Try.ntmps74 rfl fun w0 I0 => ?_
 refine GoC.seq ?_
 refine GoC.region ?_
 refine GoO.effB (ef_boxAg rfl rfl) (fun β1 => ?_)
 refine GoO.pure (ps_assign rfl rfl) ?_
 refine GoO.nil ?_
 refine GoK.code ?_
 refine GoC.seq ?_
 refine GoC.seq ?_
 refine GoC.region ?_
 refine GoO.pure (ps_loadAg rfl At.p0 At.p0 Nat.zero_lt_one rfl rfl) ?_
 have hb := bind_l H; clear H
 obtain ⟨r2, e3, H⟩ := hb
 refine GoO.effC (ef_call rfl (Take.nil _) (Take.nil _) (graph_CheckNet_spec n e3) (LendL.cons (Lend.agA ⟨⟨⟨⟨trivial, Lend.refl _ _⟩, Lend.refl _ _⟩, Lend.refl _ _⟩, Lend.refl _ _⟩) (LendL.nil)) rfl (graph_CheckNet_I (r2))) (fun rr HH hp => ?_)
 obtain ⟨rfl, rfl⟩ := hp
 refine GoO.pure (ps_assign rfl rfl) ?_
 refine GoO.nil ?_
 refine GoK.code ?_
 refine GoC.seq ?_
 refine GoC.region ?_
 refine GoO.pure (ps_move rfl rfl) ?_
 refine GoO.pure (ps_neq rfl rfl rfl) ?_
 refine GoO.nil ?_
 refine GoK.code ?_
 refine GoC.condD rfl (fun h4 => ?_) (fun h4 => ?_)
 replace H := ite_t h4 H
 refine GoC.seq ?_
 refine GoC.region ?_
 refine GoO.pure (ps_move rfl rfl) ?_
 refine GoO.pure (ps_assign rfl rfl) ?_
 refine GoO.nil ?_
 refine GoK.code ?_
 obtain rfl := Option.some.inj H
 exact GoC.retL (ds := [.v (.int .i64 r2)]) Try.results74 (ResL.cons (ResD.tmp rfl) (ResL.nil)) (Take.nil _) ⟨rfl, rfl⟩
 replace H := ite_f h4 H
 refine GoC.skip ?_
 refine GoK.code ?_
 refine GoC.seq ?_
 refine GoC.seq ?_
 refine GoC.region ?_
 refine GoO.pure (ps_move rfl rfl) ?_
 refine GoO.pure (ps_len rfl (by constructor) rfl) ?_
 refine GoO.lenLe (n := f.length) (x := .tmp 16) rfl (by constructor) sl_lenLe (fun ml5 => ?_)
 refine GoO.pure (ps_fieldAddr rfl rfl) ?_
 refine GoO.pure (ps_load rfl At.p0 At.p0 Nat.zero_lt_one rfl rfl) ?_
 refine GoO.pure (ps_len rfl (by constructor) rfl) ?_
 refine GoO.lenLe (n := n.as.length) (x := .tmp 19) rfl (by constructor) sl_lenLe (fun ml6 => ?_)
 refine GoO.pure (ps_neq rfl rfl rfl) ?_
 refine GoO.nil ?_
 refine GoK.code ?_
 refine GoC.condD rfl (fun h7 => ?_) (fun h7 => ?_)
 replace H := ite_t h7 H
 refine GoC.seq ?_
 refine GoC.region ?_
 refine GoO.pure (ps_assign rfl rfl) ?_
 refine GoO.nil ?_
 refine GoK.code ?_
 obtain rfl := Option.some.inj H
 exact GoC.retL (ds := [.v (.int .i64 3)]) Try.results74 (ResL.cons (ResD.tmp rfl) (ResL.nil)) (Take.nil _) ⟨rfl, rfl⟩
 replace H := ite_f h7 H
 refine GoC.skip ?_
 refine GoK.code ?_
 refine GoC.seq ?_
 refine GoC.region ?_
 refine GoO.effB (ef_alloc rfl) (fun β8 => ?_)
 refine GoO.le (Le.reH At.p0 (HLe.arr (α := Int) (pre := []) (g := fun _ => (0 : Int)) ⟨⟨⟨⟨⟨⟨⟨⟨⟨⟨⟨⟨trivial, DLe.refl _⟩, DLe.refl _⟩, DLe.refl _⟩, DLe.refl _⟩, DLe.refl _⟩, DLe.refl _⟩, DLe.refl _⟩, DLe.refl _⟩, DLe.refl _⟩, DLe.refl _⟩, DLe.refl _⟩, DLe.refl _⟩)) ?_
 refine GoO.nil ?_
 refine GoK.code ?_
 refine GoC.seq ?_
 refine GoC.seq ?_
 refine GoC.region ?_
 refine GoO.pure (ps_move rfl rfl) ?_
 refine GoO.pure (ps_len rfl (by constructor) rfl) ?_
 refine GoO.pure (ps_move rfl rfl) ?_
 refine GoO.nil ?_
 refine GoK.code ?_
 have hb := bind_l H; clear H
 obtain ⟨q12, hl23, HK10⟩ := hb
 refine GoC.blockJ [(2, .ptr β1 4 0 0)] [.one β1 62 4 (st1 (nth [.v (.int .i64 n.n), .v (.int .i64 n.s), .v (.int .i64 n.t), slD n.as]))] (fun v h => ∃ (f13 : (Nat → Int)), q12 = .go f13 ∧ v = [(6, .ptr β8 12 0 0)] ∧ h = [.one β8 123 12 (arrC (α := Int) [] f13)]) ?_ ?_
 refine GoC.loopJ [(2, _), (22, _), (23, _)] [.one β1 62 4 (st1 (nth [.v (.int .i64 n.n), .v (.int .i64 n.s), .v (.int .i64 n.t), slD n.as]))] (fun mQ v h => ∃ (k14 : Nat) (f9 : (Nat → Int)), (k14 + mQ = f.length ∧ forC (flow_Check_B1 n f) mQ k14 f9 = some q12) ∧ v = [(24, .v (.int .i64 ((k14 : Nat) : Int))), (6, .ptr β8 12 0 0)] ∧ h = [.one β8 123 12 (arrC (α := Int) [] f9)]) f.length ⟨_, _, ⟨by omega, hl23⟩, rfl, rfl⟩ (EnvD.eq rfl (EnvD.eq rfl (EnvD.eq rfl (EnvD.eq rfl (EnvD.eq rfl (EnvD.nil)))))) (TkD.cons _ _ _ _ _ Rem.p0 (HLe.refl _) (TkD.cons _ _ _ _ _ Rem.p0 (HLe.st ⟨⟨⟨⟨trivial, DLe.refl _⟩, DLe.refl _⟩, DLe.refl _⟩, DLe.refl _⟩) (TkD.nil _))) ?_
 rintro m15 v h ⟨k14, f9, ⟨hkk14, hF11⟩, rfl, rfl⟩
 refine GoC.seq ?_
 refine GoC.region ?_
 refine GoO.pure (ps_lss rfl rfl rfl) ?_
 refine GoO.nil ?_
 refine GoK.code ?_
 refine GoC.seq ?_
 refine GoC.condD rfl (fun (hk14 : (k14 : Int) < ((f.length : Nat) : Int)) => ?_) (fun (hk14 : ¬ (k14 : Int) < ((f.length : Nat) : Int)) => ?_)
 obtain ⟨m15', rfl⟩ : ∃ x, m15 = x + 1 := ⟨m15 - 1, by omega⟩
 have hb := bind_l hF11; clear hF11
 obtain ⟨qrm15, H, hF11⟩ := hb
 have hnk14 : k14 < f.length := by omega
 have hIk14 : InI ((k14 : Int) + 1) := inI_len hk14 ml5
 refine GoC.skip ?_
 refine GoK.code ?_
 refine GoC.seq ?_
 refine GoC.block ?_
 refine GoC.seq ?_
 refine GoC.region ?_
 refine GoO.pure (ps_move rfl rfl) ?_
 refine GoO.pure (ps_indexAddrRN rfl rfl hnk14 rfl) ?_
 refine GoO.pure (ps_loadR rfl hnk14 rfl rfl) ?_
 refine GoO.pure (ps_assign rfl rfl) ?_
 refine GoO.pure (ps_assign rfl rfl) ?_
 refine GoO.nil ?_
 refine GoK.code ?_
 refine GoC.seq ?_
 refine GoC.seq ?_
 refine GoC.region ?_
 refine GoO.pure (ps_move rfl rfl) ?_
 refine GoO.pure (ps_lss rfl rfl rfl) ?_
 refine GoO.pure (ps_move rfl rfl) ?_
 refine GoO.guardE rfl rfl rfl rfl (fun h16 => ?_) (fun h16 => ?_)
 replace H := ite_f h16 H
 refine GoO.pure (ps_move rfl rfl) ?_
 refine GoO.guardT rfl rfl rfl ?_
 refine GoO.pure (ps_fieldAddr rfl rfl) ?_
 refine GoO.guardT rfl rfl rfl ?_
 refine GoO.pure (ps_load rfl At.p1 At.p1 Nat.zero_lt_one rfl rfl) ?_
 refine GoO.guardT rfl rfl rfl ?_
 refine GoO.pure (ps_move rfl rfl) ?_
 refine GoO.guardT rfl rfl rfl ?_
 have c17 := ck_l H; replace H := ck_r H
 refine GoO.pure (ps_indexAddrRN rfl rfl c17 rfl) ?_
 refine GoO.guardT rfl rfl rfl ?_
 refine GoO.pure (ps_fieldAddrR rfl rfl) ?_
 refine GoO.guardT rfl rfl rfl ?_
 refine GoO.pure (ps_loadR rfl c17 rfl rfl) ?_
 refine GoO.guardT rfl rfl rfl ?_
 refine GoO.pure (ps_gtr rfl rfl rfl) ?_
 refine GoO.pure (ps_pickF rfl rfl rfl) ?_
 refine GoO.nil ?_
 refine GoK.code ?_
 refine GoC.condD rfl (fun h18 => ?_) (fun h18 => ?_)
 replace H := ite_t h18 H
 refine GoC.seq ?_
 refine GoC.region ?_
 refine GoO.pure (ps_assign rfl rfl) ?_
 refine GoO.nil ?_
 refine GoK.code ?_
 obtain rfl := Option.some.inj H
 obtain rfl := Option.some.inj hF11
 obtain rfl := Option.some.inj HK10
 exact GoC.retL (ds := [.v (.int .i64 7)]) Try.results74 (ResL.cons (ResD.tmp rfl) (ResL.nil)) (Take.nil _) ⟨rfl, rfl⟩
 replace H := ite_f h18 H
 refine GoC.skip ?_
 refine GoK.code ?_
 refine GoC.seq ?_
 refine GoC.region ?_
 refine GoO.pure (ps_fieldAddr rfl rfl) ?_
 refine GoO.pure (ps_load rfl At.p1 At.p1 Nat.zero_lt_one rfl rfl) ?_
 refine GoO.pure (ps_move rfl rfl) ?_
 refine GoO.pure (ps_indexAddrRN rfl rfl c17 rfl) ?_
 refine GoO.pure (ps_fieldAddrR rfl rfl) ?_
 refine GoO.pure (ps_loadR rfl c17 rfl rfl) ?_
 have c19 := ck_l H; replace H := ck_r H
 refine GoO.pure (ps_indexAddrA rfl rfl c19 rfl) ?_
 refine GoO.pure (ps_loadA (α := Int) (i := ((n.as.getD k14 El.d).f).toNat) (off := 0) rfl At.p0 At.p0 (by simp only [show El.size Int = 1 from rfl, List.length_cons, List.length_nil, eldI]; omega) (idx_lt (n := 12) c19) rfl rfl rfl) ?_
 refine GoO.pure (ps_move rfl rfl) ?_
 have c20 := ck_l H; replace H := ck_r H
 refine GoO.pure (ps_sub rfl rfl rfl c20) ?_
 refine GoO.pure (ps_indexAddrA rfl rfl c19 rfl) ?_
 refine GoO.eff1 (ef_store rfl rfl rfl At.p0 (upd_arr1 (α := Int) (i := ((n.as.getD k14 El.d).f).toNat) (v := ((f9 (((n.as.getD k14 El.d).f).toNat)) - (f.getD k14 (0 : Int)))) rfl (by simp only [show El.size Int = 1 from rfl, List.length_cons, List.length_nil, eldI]; omega) rfl) Nat.zero_lt_one (blt_of (arr_lt (α := Int) (pre := []) (i := ((n.as.getD k14 El.d).f).toNat) (off := 0) (by simp only [show El.size Int = 1 from rfl, List.length_cons, List.length_nil, eldI]; omega) (idx_lt (n := 12) c19) (by decide) rfl))) ?_
 refine GoO.nil ?_
 refine GoK.code ?_
 refine GoC.region ?_
 refine GoO.pure (ps_fieldAddr rfl rfl) ?_
 refine GoO.pure (ps_load rfl At.p1 At.p1 Nat.zero_lt_one rfl rfl) ?_
 refine GoO.pure (ps_move rfl rfl) ?_
 refine GoO.pure (ps_indexAddrRN rfl rfl c17 rfl) ?_
 refine GoO.pure (ps_fieldAddrR rfl rfl) ?_
 refine GoO.pure (ps_loadR rfl c17 rfl rfl) ?_
 have c21 := ck_l H; replace H := ck_r H
 refine GoO.pure (ps_indexAddrA rfl rfl c21 rfl) ?_
 refine GoO.pure (ps_loadA (α := Int) (i := ((n.as.getD k14 El.d).t).toNat) (off := 0) rfl At.p0 At.p0 (by simp only [show El.size Int = 1 from rfl, List.length_cons, List.length_nil, eldI]; omega) (idx_lt (n := 12) c21) rfl rfl rfl) ?_
 refine GoO.pure (ps_move rfl rfl) ?_
 have c22 := ck_l H; replace H := ck_r H
 refine GoO.pure (ps_add rfl rfl rfl c22) ?_
 refine GoO.pure (ps_indexAddrA rfl rfl c21 rfl) ?_
 refine GoO.eff1 (ef_store rfl rfl rfl At.p0 (upd_arr1 (α := Int) (i := ((n.as.getD k14 El.d).t).toNat) (v := (((updF f9 (((n.as.getD k14 El.d).f).toNat) ((f9 (((n.as.getD k14 El.d).f).toNat)) - (f.getD k14 (0 : Int)))) (((n.as.getD k14 El.d).t).toNat)) + (f.getD k14 (0 : Int)))) rfl (by simp only [show El.size Int = 1 from rfl, List.length_cons, List.length_nil, eldI]; omega) rfl) Nat.zero_lt_one (blt_of (arr_lt (α := Int) (pre := []) (i := ((n.as.getD k14 El.d).t).toNat) (off := 0) (by simp only [show El.size Int = 1 from rfl, List.length_cons, List.length_nil, eldI]; omega) (idx_lt (n := 12) c21) (by decide) rfl))) ?_
 refine GoO.nil ?_
 refine GoK.blk ?_
 refine GoK.code ?_
 refine GoC.region ?_
 refine GoO.pure (ps_add rfl rfl rfl hIk14) ?_
 refine GoO.pure (ps_move rfl rfl) ?_
 refine GoO.nil ?_
 obtain rfl := Option.some.inj H
 exact GoK.againJ m15' (by omega) ⟨_, _, ⟨by omega, hF11⟩, rfl, rfl⟩ (EnvD.eq rfl (EnvD.eq rfl (EnvD.eq rfl (EnvD.eq rfl (EnvD.eq rfl (EnvD.nil)))))) (TkD.cons _ _ _ _ _ Rem.p0 (HLe.refl _) (TkD.cons _ _ _ _ _ Rem.p0 (HLe.st ⟨⟨⟨⟨trivial, DLe.refl _⟩, DLe.refl _⟩, DLe.refl _⟩, DLe.refl _⟩) (TkD.nil _)))
 replace H := ite_t h16 H
 refine GoO.guardF rfl rfl rfl rfl ?_
 refine GoO.guardF rfl rfl rfl rfl ?_
 refine GoO.guardF rfl rfl rfl rfl ?_
 refine GoO.guardF rfl rfl rfl rfl ?_
 refine GoO.guardF rfl rfl rfl rfl ?_
 refine GoO.guardF rfl rfl rfl rfl ?_
 refine GoO.guardF rfl rfl rfl rfl ?_
 refine GoO.pure (ps_pickT rfl rfl rfl) ?_
 refine GoO.nil ?_
 refine GoK.code ?_
 refine GoC.condT rfl ?_
 refine GoC.seq ?_
 refine GoC.region ?_
 refine GoO.pure (ps_assign rfl rfl) ?_
 refine GoO.nil ?_
 refine GoK.code ?_
 obtain rfl := Option.some.inj H
 obtain rfl := Option.some.inj hF11
 obtain rfl := Option.some.inj HK10
 exact GoC.retL (ds := [.v (.int .i64 7)]) Try.results74 (ResL.cons (ResD.tmp rfl) (ResL.nil)) (Take.nil _) ⟨rfl, rfl⟩
 obtain rfl : m15 = 0 := by omega
 refine GoC.exit rfl ?_
 cases hF11
 exact GoK.meet ⟨_, rfl, rfl, rfl⟩ (EnvD.eq rfl (EnvD.eq rfl (EnvD.nil))) (TkD.cons _ _ _ _ _ Rem.p0 (HLe.refl _) (TkD.cons _ _ _ _ _ Rem.p0 (HLe.st ⟨⟨⟨⟨trivial, DLe.refl _⟩, DLe.refl _⟩, DLe.refl _⟩, DLe.refl _⟩) (TkD.nil _)))
 rintro v h ⟨f13, rfl, rfl, rfl⟩
 have H := HK10; clear HK10
 refine GoK.code ?_
 refine GoC.seq ?_
 refine GoC.seq ?_
 refine GoC.region ?_
 refine GoO.pure (ps_loadAg rfl At.p0 At.p0 Nat.zero_lt_one rfl rfl) ?_
 refine GoO.le (Le.re 64 rfl (DLe.arrV (α := Int) (g := f13))) ?_
 refine GoO.pure (ps_move rfl rfl) ?_
 refine GoO.nil ?_
 refine GoK.code ?_
 have hb := bind_l H; clear H
 obtain ⟨q26, hl32, HK24⟩ := hb
 refine GoC.blockJ [] [.one β8 123 12 (arrC (α := Int) [] f13), .one β1 62 4 (st1 (nth [.v (.int .i64 n.n), .v (.int .i64 n.s), .v (.int .i64 n.t), slD n.as]))] (fun v h => q26 = .go () ∧ v = [] ∧ h = []) ?_ ?_
 refine GoC.loopJ [(2, _), (64, _)] [.one β8 123 12 (arrC (α := Int) [] f13), .one β1 62 4 (st1 (nth [.v (.int .i64 n.n), .v (.int .i64 n.s), .v (.int .i64 n.t), slD n.as]))] (fun mQ v h => ∃ (k27 : Nat), (k27 + mQ = 12 ∧ forC (flow_Check_B2 n f13) mQ k27 () = some q26) ∧ v = [(65, .v (.int .i64 ((k27 : Nat) : Int)))] ∧ h = []) 12 ⟨_, ⟨by omega, hl32⟩, rfl, rfl⟩ (EnvD.eq rfl (EnvD.eq rfl (EnvD.eq rfl (EnvD.nil)))) (TkD.cons _ _ _ _ _ Rem.p0 (HLe.refl _) (TkD.cons _ _ _ _ _ Rem.p0 (HLe.st ⟨⟨⟨⟨trivial, DLe.refl _⟩, DLe.refl _⟩, DLe.refl _⟩, DLe.refl _⟩) (TkD.nil _))) ?_
 rintro m28 v h ⟨k27, ⟨hkk27, hF25⟩, rfl, rfl⟩
 refine GoC.seq ?_
 refine GoC.region ?_
 refine GoO.pure (ps_lss rfl rfl rfl) ?_
 refine GoO.nil ?_
 refine GoK.code ?_
 refine GoC.seq ?_
 refine GoC.condD rfl (fun (hk27 : (k27 : Int) < ((12 : Nat) : Int)) => ?_) (fun (hk27 : ¬ (k27 : Int) < ((12 : Nat) : Int)) => ?_)
 obtain ⟨m28', rfl⟩ : ∃ x, m28 = x + 1 := ⟨m28 - 1, by omega⟩
 have hb := bind_l hF25; clear hF25
 obtain ⟨qrm28, H, hF25⟩ := hb
 have hnk27 : k27 < 12 := by omega
 have hIk27 : InI ((k27 : Int) + 1) := inI_cnt hk27 (by unfold InI; omega)
 refine GoC.skip ?_
 refine GoK.code ?_
 refine GoC.seq ?_
 refine GoC.block ?_
 refine GoC.seq ?_
 refine GoC.region ?_
 refine GoO.pure (ps_move rfl rfl) ?_
 refine GoO.pure (ps_indexV (α := Int) rfl rfl ⟨Int.natCast_nonneg _, Int.ofNat_lt.2 hnk27⟩ rfl rfl rfl) ?_
 refine GoO.pure (ps_assign rfl rfl) ?_
 refine GoO.pure (ps_assign rfl rfl) ?_
 refine GoO.nil ?_
 refine GoK.code ?_
 refine GoC.seq ?_
 refine GoC.region ?_
 refine GoO.pure (ps_move rfl rfl) ?_
 refine GoO.pure (ps_neq rfl rfl rfl) ?_
 refine GoO.pure (ps_move rfl rfl) ?_
 refine GoO.guardD rfl rfl rfl rfl (fun h29 => ?_) (fun h29 => ?_)
 replace H := ite_t h29 H
 refine GoO.pure (ps_move rfl rfl) ?_
 refine GoO.guardT rfl rfl rfl ?_
 refine GoO.pure (ps_fieldAddr rfl rfl) ?_
 refine GoO.guardT rfl rfl rfl ?_
 refine GoO.pure (ps_load rfl At.p1 At.p1 Nat.zero_lt_one rfl rfl) ?_
 refine GoO.guardT rfl rfl rfl ?_
 refine GoO.pure (ps_neq rfl rfl rfl) ?_
 refine GoO.pure (ps_pickT rfl rfl rfl) ?_
 refine GoO.pure (ps_move rfl rfl) ?_
 refine GoO.guardD rfl rfl rfl rfl (fun h30 => ?_) (fun h30 => ?_)
 replace H := ite_t h30 H
 refine GoO.pure (ps_move rfl rfl) ?_
 refine GoO.guardT rfl rfl rfl ?_
 refine GoO.pure (ps_fieldAddr rfl rfl) ?_
 refine GoO.guardT rfl rfl rfl ?_
 refine GoO.pure (ps_load rfl At.p1 At.p1 Nat.zero_lt_one rfl rfl) ?_
 refine GoO.guardT rfl rfl rfl ?_
 refine GoO.pure (ps_neq rfl rfl rfl) ?_
 refine GoO.pure (ps_pickT rfl rfl rfl) ?_
 refine GoO.nil ?_
 refine GoK.code ?_
 refine GoC.condD rfl (fun h31 => ?_) (fun h31 => ?_)
 replace H := ite_t h31 H
 refine GoC.seq ?_
 refine GoC.region ?_
 refine GoO.pure (ps_assign rfl rfl) ?_
 refine GoO.nil ?_
 refine GoK.code ?_
 obtain rfl := Option.some.inj H
 obtain rfl := Option.some.inj hF25
 obtain rfl := Option.some.inj HK24
 exact GoC.retL (ds := [.v (.int .i64 8)]) Try.results74 (ResL.cons (ResD.tmp rfl) (ResL.nil)) (Take.nil _) ⟨rfl, rfl⟩
 replace H := ite_f h31 H
 refine GoC.skip ?_
 refine GoK.blk ?_
 refine GoK.code ?_
 refine GoC.region ?_
 refine GoO.pure (ps_add rfl rfl rfl hIk27) ?_
 refine GoO.pure (ps_move rfl rfl) ?_
 refine GoO.nil ?_
 obtain rfl := Option.some.inj H
 exact GoK.againJ m28' (by omega) ⟨_, ⟨by omega, hF25⟩, rfl, rfl⟩ (EnvD.eq rfl (EnvD.eq rfl (EnvD.eq rfl (EnvD.nil)))) (TkD.cons _ _ _ _ _ Rem.p0 (HLe.refl _) (TkD.cons _ _ _ _ _ Rem.p0 (HLe.st ⟨⟨⟨⟨trivial, DLe.refl _⟩, DLe.refl _⟩, DLe.refl _⟩, DLe.refl _⟩) (TkD.nil _)))
 replace H := ite_f h30 H
 refine GoO.guardF rfl rfl rfl rfl ?_
 refine GoO.guardF rfl rfl rfl rfl ?_
 refine GoO.guardF rfl rfl rfl rfl ?_
 refine GoO.pure (ps_pickF rfl rfl rfl) ?_
 refine GoO.nil ?_
 refine GoK.code ?_
 refine GoC.condF rfl ?_
 refine GoC.skip ?_
 refine GoK.blk ?_
 refine GoK.code ?_
 refine GoC.region ?_
 refine GoO.pure (ps_add rfl rfl rfl hIk27) ?_
 refine GoO.pure (ps_move rfl rfl) ?_
 refine GoO.nil ?_
 obtain rfl := Option.some.inj H
 exact GoK.againJ m28' (by omega) ⟨_, ⟨by omega, hF25⟩, rfl, rfl⟩ (EnvD.eq rfl (EnvD.eq rfl (EnvD.eq rfl (EnvD.nil)))) (TkD.cons _ _ _ _ _ Rem.p0 (HLe.refl _) (TkD.cons _ _ _ _ _ Rem.p0 (HLe.st ⟨⟨⟨⟨trivial, DLe.refl _⟩, DLe.refl _⟩, DLe.refl _⟩, DLe.refl _⟩) (TkD.nil _)))
 replace H := ite_f h29 H
 refine GoO.guardF rfl rfl rfl rfl ?_
 refine GoO.guardF rfl rfl rfl rfl ?_
 refine GoO.guardF rfl rfl rfl rfl ?_
 refine GoO.pure (ps_pickF rfl rfl rfl) ?_
 refine GoO.pure (ps_move rfl rfl) ?_
 refine GoO.guardF rfl rfl rfl rfl ?_
 refine GoO.guardF rfl rfl rfl rfl ?_
 refine GoO.guardF rfl rfl rfl rfl ?_
 refine GoO.guardF rfl rfl rfl rfl ?_
 refine GoO.pure (ps_pickF rfl rfl rfl) ?_
 refine GoO.nil ?_
 refine GoK.code ?_
 refine GoC.condF rfl ?_
 refine GoC.skip ?_
 refine GoK.blk ?_
 refine GoK.code ?_
 refine GoC.region ?_
 refine GoO.pure (ps_add rfl rfl rfl hIk27) ?_
 refine GoO.pure (ps_move rfl rfl) ?_
 refine GoO.nil ?_
 obtain rfl := Option.some.inj H
 exact GoK.againJ m28' (by omega) ⟨_, ⟨by omega, hF25⟩, rfl, rfl⟩ (EnvD.eq rfl (EnvD.eq rfl (EnvD.eq rfl (EnvD.nil)))) (TkD.cons _ _ _ _ _ Rem.p0 (HLe.refl _) (TkD.cons _ _ _ _ _ Rem.p0 (HLe.st ⟨⟨⟨⟨trivial, DLe.refl _⟩, DLe.refl _⟩, DLe.refl _⟩, DLe.refl _⟩) (TkD.nil _)))
 obtain rfl : m28 = 0 := by omega
 refine GoC.exit rfl ?_
 cases hF25
 exact GoK.meet ⟨rfl, rfl, rfl⟩ (EnvD.nil) (TkD.cons _ _ _ _ _ Rem.p0 (HLe.refl _) (TkD.cons _ _ _ _ _ Rem.p0 (HLe.st ⟨⟨⟨⟨trivial, DLe.refl _⟩, DLe.refl _⟩, DLe.refl _⟩, DLe.refl _⟩) (TkD.nil _)))
 rintro v h ⟨rfl, rfl, rfl⟩
 have H := HK24; clear HK24
 refine GoK.code ?_
 refine GoC.seq ?_
 refine GoC.region ?_
 refine GoO.pure (ps_assign rfl rfl) ?_
 refine GoO.nil ?_
 refine GoK.code ?_
 obtain rfl := Option.some.inj H
 exact GoC.retL (ds := [.v (.int .i64 0)]) Try.results74 (ResL.cons (ResD.tmp rfl) (ResL.nil)) (Take.nil _) ⟨rfl, rfl⟩

def flow_Value_B1 (n : Net) (f : (List Int)) : Nat → Int → Option (Int) := fun k11 x6 =>
 ((
  if ((n.as.getD k11 El.d).f) = n.s then
   ck (k11 < f.length) <|
   ck (InI (x6 + (f.getD k11 (0 : Int)))) <|
   some (x6 + (f.getD k11 (0 : Int)))
  else
   some x6) : Option (Int)).bind fun x14 =>
 if ((n.as.getD k11 El.d).t) = n.s then
  ck (k11 < f.length) <|
  ck (InI (x14 - (f.getD k11 (0 : Int)))) <|
  some (x14 - (f.getD k11 (0 : Int)))
 else
  some x14
def flow_Value_F (n : Net) (f : (List Int)) : Option (Int × Int) :=
 (flow_Check_F n f).bind fun r2 =>
 if r2 ≠ 0 then
  some (0, r2)
 else
  (forN (flow_Value_B1 n f) n.as.length 0 0).bind fun x10 =>
  some (x10, 0)
def flow_Value_P (out : Int × Int) (d : D) (H : List HL) : Prop := d = .tp 2 (nth [.v (.int .i64 out.1), .v (.int .i64 out.2)]) ∧ H = []
theorem flow_Value_I (out : Int × Int) : IndepP (flow_Value_P out) := IndepP.of (by rintro _ _ ⟨rfl, rfl⟩; exact ⟨inferInstance, inferInstance⟩)
set_option maxRecDepth 100000 in
set_option maxHeartbeats 4000000 in
theorem flow_Value_spec (n : Net) (f : (List Int)) {out : Int × Int} (H : flow_Value_F n f = some out) : Does Try.prog 58 [.ag 4 (nth [.v (.int .i64 n.n), .v (.int .i64 n.s), .v (.int .i64 n.t), slD n.as]), slD f] [] (flow_Value_P out) := by
 unfold flow_Value_F at H
 refine Does.intro Try.func58 rfl Try.ntmps58 rfl fun w0 I0 => ?_
 refine GoC.seq ?_
 refine GoC.region ?_
 refine GoO.effB (ef_boxAg rfl rfl) (fun β1 => ?_)
 refine GoO.pure (ps_assign rfl rfl) ?_
 refine GoO.pure (ps_assign rfl rfl) ?_
 refine GoO.nil ?_
 refine GoK.code ?_
 refine GoC.seq ?_
 refine GoC.seq ?_
 refine GoC.region ?_
 refine GoO.pure (ps_loadAg rfl At.p0 At.p0 Nat.zero_lt_one rfl rfl) ?_
 refine GoO.pure (ps_move rfl rfl) ?_
 have hb := bind_l H; clear H
 obtain ⟨r2, e3, H⟩ := hb
 refine GoO.effC (ef_call rfl (Take.nil _) (Take.nil _) (flow_Check_spec n f e3) (LendL.cons (Lend.agA ⟨⟨⟨⟨trivial, Lend.refl _ _⟩, Lend.refl _ _⟩, Lend.refl _ _⟩, Lend.refl _ _⟩) (LendL.cons (Lend.refl _ _) (LendL.nil))) rfl (flow_Check_I (r2))) (fun rr HH hp => ?_)
 obtain ⟨rfl, rfl⟩ := hp
 refine GoO.pure (ps_assign rfl rfl) ?_
 refine GoO.nil ?_
 refine GoK.code ?_
 refine GoC.seq ?_
 refine GoC.region ?_
 refine GoO.pure (ps_move rfl rfl) ?_
 refine GoO.pure (ps_neq rfl rfl rfl) ?_
 refine GoO.nil ?_
 refine GoK.code ?_
 refine GoC.condD rfl (fun h4 => ?_) (fun h4 => ?_)
 replace H := ite_t h4 H
 refine GoC.seq ?_
 refine GoC.region ?_
 refine GoO.pure (ps_move rfl rfl) ?_
 refine GoO.pure (ps_assign rfl rfl) ?_
 refine GoO.pure (ps_assign rfl rfl) ?_
 refine GoO.nil ?_
 refine GoK.code ?_
 obtain rfl := Option.some.inj H
 exact GoC.retL (ds := [.v (.int .i64 0), .v (.int .i64 r2)]) Try.results58 (ResL.cons (ResD.tmp rfl) (ResL.cons (ResD.tmp rfl) (ResL.nil))) (Take.nil _) ⟨rfl, rfl⟩
 replace H := ite_f h4 H
 refine GoC.skip ?_
 refine GoK.code ?_
 refine GoC.seq ?_
 refine GoC.region ?_
 refine GoO.pure (ps_assign rfl rfl) ?_
 refine GoO.nil ?_
 refine GoK.code ?_
 refine GoC.seq ?_
 refine GoC.seq ?_
 refine GoC.region ?_
 refine GoO.pure (ps_fieldAddr rfl rfl) ?_
 refine GoO.pure (ps_load rfl At.p0 At.p0 Nat.zero_lt_one rfl rfl) ?_
 refine GoO.pure (ps_len rfl (by constructor) rfl) ?_
 refine GoO.lenLe (n := n.as.length) (x := .tmp 17) rfl (by constructor) sl_lenLe (fun ml5 => ?_)
 refine GoO.pure (ps_move rfl rfl) ?_
 refine GoO.nil ?_
 refine GoK.code ?_
 have hb := bind_l H; clear H
 obtain ⟨x10, hl23, HK7⟩ := hb
 refine GoC.blockJ [] [.one β1 62 4 (st1 (nth [.v (.int .i64 n.n), .v (.int .i64 n.s), .v (.int .i64 n.t), slD n.as]))] (fun v h => v = [(7, .v (.int .i64 x10))] ∧ h = []) ?_ ?_
 refine GoC.loopJ [(1, _), (2, _), (17, _), (18, _)] [.one β1 62 4 (st1 (nth [.v (.int .i64 n.n), .v (.int .i64 n.s), .v (.int .i64 n.t), slD n.as]))] (fun mQ v h => ∃ (k11 : Nat) (x6 : Int), (k11 + mQ = n.as.length ∧ forN (flow_Value_B1 n f) mQ k11 x6 = some x10) ∧ v = [(19, .v (.int .i64 ((k11 : Nat) : Int))), (7, .v (.int .i64 x6))] ∧ h = []) n.as.length ⟨_, _, ⟨by omega, hl23⟩, rfl, rfl⟩ (EnvD.eq rfl (EnvD.eq rfl (EnvD.eq rfl (EnvD.eq rfl (EnvD.eq rfl (EnvD.eq rfl (EnvD.nil))))))) (TkD.cons _ _ _ _ _ Rem.p0 (HLe.st ⟨⟨⟨⟨trivial, DLe.refl _⟩, DLe.refl _⟩, DLe.refl _⟩, DLe.refl _⟩) (TkD.nil _)) ?_
 rintro m12 v h ⟨k11, x6, ⟨hkk11, hF8⟩, rfl, rfl⟩
 refine GoC.seq ?_
 refine GoC.region ?_
 refine GoO.pure (ps_lss rfl rfl rfl) ?_
 refine GoO.nil ?_
 refine GoK.code ?_
 refine GoC.seq ?_
 refine GoC.condD rfl (fun (hk11 : (k11 : Int) < ((n.as.length : Nat) : Int)) => ?_) (fun (hk11 : ¬ (k11 : Int) < ((n.as.length : Nat) : Int)) => ?_)
 obtain ⟨m12', rfl⟩ : ∃ x, m12 = x + 1 := ⟨m12 - 1, by omega⟩
 have hb := bind_l hF8; clear hF8
 obtain ⟨qrm12, H, hF8⟩ := hb
 have hnk11 : k11 < n.as.length := by omega
 have hIk11 : InI ((k11 : Int) + 1) := inI_len hk11 ml5
 refine GoC.skip ?_
 refine GoK.code ?_
 refine GoC.seq ?_
 refine GoC.block ?_
 refine GoC.seq ?_
 refine GoC.region ?_
 refine GoO.pure (ps_move rfl rfl) ?_
 refine GoO.pure (ps_indexAddrRN rfl rfl hnk11 rfl) ?_
 refine GoO.pure (ps_loadAgR rfl hnk11 rfl rfl) ?_
 refine GoO.effB (ef_alloc rfl) (fun β13 => ?_)
 refine GoO.pure (ps_assign rfl rfl) ?_
 refine GoO.eff1 (ef_storeAg rfl rfl At.p0 upd_whole Nat.zero_lt_one rfl) ?_
 refine GoO.nil ?_
 refine GoK.code ?_
 have hb := bind_l H; clear H
 obtain ⟨x14, H, HK15⟩ := hb
 refine GoC.seqJ [(1, slD f), (2, .ptr β1 4 0 0), (8, .v (.int .i64 ((k11 : Nat) : Int))), (9, .ptr β13 3 0 0), (17, slD n.as), (18, .v (.int .i64 ((n.as.length : Nat) : Int))), (19, .v (.int .i64 ((k11 : Nat) : Int)))] [.one β13 29 3 (st1 (nth [.v (.int .i64 ((n.as.getD k11 El.d).f)), .v (.int .i64 ((n.as.getD k11 El.d).t)), .v (.int .i64 ((n.as.getD k11 El.d).c))])), .one β1 62 4 (st1 (nth [.v (.int .i64 n.n), .v (.int .i64 n.s), .v (.int .i64 n.t), slD n.as]))] (fun v h => v = [(7, .v (.int .i64 x14))] ∧ h = []) ?_ ?_
 refine GoC.seq ?_
 refine GoC.region ?_
 refine GoO.pure (ps_fieldAddr rfl rfl) ?_
 refine GoO.pure (ps_load rfl At.p0 At.p0 Nat.zero_lt_one rfl rfl) ?_
 refine GoO.pure (ps_fieldAddr rfl rfl) ?_
 refine GoO.pure (ps_load rfl At.p1 At.p1 Nat.zero_lt_one rfl rfl) ?_
 refine GoO.pure (ps_eql rfl rfl rfl) ?_
 refine GoO.nil ?_
 refine GoK.code ?_
 refine GoC.condD rfl (fun h17 => ?_) (fun h17 => ?_)
 replace H := ite_t h17 H
 refine GoC.region ?_
 refine GoO.pure (ps_move rfl rfl) ?_
 refine GoO.pure (ps_move rfl rfl) ?_
 refine GoO.pure (ps_move rfl rfl) ?_
 have c18 := ck_l H; replace H := ck_r H
 refine GoO.pure (ps_indexAddrRN rfl rfl c18 rfl) ?_
 refine GoO.pure (ps_loadR rfl c18 rfl rfl) ?_
 have c19 := ck_l H; replace H := ck_r H
 refine GoO.pure (ps_add rfl rfl rfl c19) ?_
 refine GoO.pure (ps_assign rfl rfl) ?_
 refine GoO.nil ?_
 cases H
 exact GoK.meet ⟨rfl, rfl⟩ (EnvD.eq rfl (EnvD.eq rfl (EnvD.eq rfl (EnvD.eq rfl (EnvD.eq rfl (EnvD.eq rfl (EnvD.eq rfl (EnvD.eq rfl (EnvD.nil))))))))) (TkD.cons _ _ _ _ _ Rem.p0 (HLe.st ⟨⟨⟨trivial, DLe.refl _⟩, DLe.refl _⟩, DLe.refl _⟩) (TkD.cons _ _ _ _ _ Rem.p0 (HLe.st ⟨⟨⟨⟨trivial, DLe.refl _⟩, DLe.refl _⟩, DLe.refl _⟩, DLe.refl _⟩) (TkD.nil _)))
 replace H := ite_f h17 H
 refine GoC.skip ?_
 cases H
 exact GoK.meet ⟨rfl, rfl⟩ (EnvD.eq rfl (EnvD.eq rfl (EnvD.eq rfl (EnvD.eq rfl (EnvD.eq rfl (EnvD.eq rfl (EnvD.eq rfl (EnvD.eq rfl (EnvD.nil))))))))) (TkD.cons _ _ _ _ _ Rem.p0 (HLe.st ⟨⟨⟨trivial, DLe.refl _⟩, DLe.refl _⟩, DLe.refl _⟩) (TkD.cons _ _ _ _ _ Rem.p0 (HLe.st ⟨⟨⟨⟨trivial, DLe.refl _⟩, DLe.refl _⟩, DLe.refl _⟩, DLe.refl _⟩) (TkD.nil _)))
 rintro v h ⟨rfl, rfl⟩
 have H := HK15; clear HK15
 refine GoC.seq ?_
 refine GoC.region ?_
 refine GoO.pure (ps_fieldAddr rfl rfl) ?_
 refine GoO.pure (ps_load rfl At.p0 At.p0 Nat.zero_lt_one rfl rfl) ?_
 refine GoO.pure (ps_fieldAddr rfl rfl) ?_
 refine GoO.pure (ps_load rfl At.p1 At.p1 Nat.zero_lt_one rfl rfl) ?_
 refine GoO.pure (ps_eql rfl rfl rfl) ?_
 refine GoO.nil ?_
 refine GoK.code ?_
 refine GoC.condD rfl (fun h20 => ?_) (fun h20 => ?_)
 replace H := ite_t h20 H
 refine GoC.region ?_
 refine GoO.pure (ps_move rfl rfl) ?_
 refine GoO.pure (ps_move rfl rfl) ?_
 refine GoO.pure (ps_move rfl rfl) ?_
 have c21 := ck_l H; replace H := ck_r H
 refine GoO.pure (ps_indexAddrRN rfl rfl c21 rfl) ?_
 refine GoO.pure (ps_loadR rfl c21 rfl rfl) ?_
 have c22 := ck_l H; replace H := ck_r H
 refine GoO.pure (ps_sub rfl rfl rfl c22) ?_
 refine GoO.pure (ps_assign rfl rfl) ?_
 refine GoO.nil ?_
 refine GoK.blk ?_
 refine GoK.code ?_
 refine GoC.region ?_
 refine GoO.pure (ps_add rfl rfl rfl hIk11) ?_
 refine GoO.pure (ps_move rfl rfl) ?_
 refine GoO.nil ?_
 obtain rfl := Option.some.inj H
 exact GoK.againJ m12' (by omega) ⟨_, _, ⟨by omega, hF8⟩, rfl, rfl⟩ (EnvD.eq rfl (EnvD.eq rfl (EnvD.eq rfl (EnvD.eq rfl (EnvD.eq rfl (EnvD.eq rfl (EnvD.nil))))))) (TkD.cons _ _ _ _ _ Rem.p1 (HLe.st ⟨⟨⟨⟨trivial, DLe.refl _⟩, DLe.refl _⟩, DLe.refl _⟩, DLe.refl _⟩) (TkD.nil _))
 replace H := ite_f h20 H
 refine GoC.skip ?_
 refine GoK.blk ?_
 refine GoK.code ?_
 refine GoC.region ?_
 refine GoO.pure (ps_add rfl rfl rfl hIk11) ?_
 refine GoO.pure (ps_move rfl rfl) ?_
 refine GoO.nil ?_
 obtain rfl := Option.some.inj H
 exact GoK.againJ m12' (by omega) ⟨_, _, ⟨by omega, hF8⟩, rfl, rfl⟩ (EnvD.eq rfl (EnvD.eq rfl (EnvD.eq rfl (EnvD.eq rfl (EnvD.eq rfl (EnvD.eq rfl (EnvD.nil))))))) (TkD.cons _ _ _ _ _ Rem.p1 (HLe.st ⟨⟨⟨⟨trivial, DLe.refl _⟩, DLe.refl _⟩, DLe.refl _⟩, DLe.refl _⟩) (TkD.nil _))
 obtain rfl : m12 = 0 := by omega
 refine GoC.exit rfl ?_
 cases hF8
 exact GoK.meet ⟨rfl, rfl⟩ (EnvD.eq rfl (EnvD.nil)) (TkD.cons _ _ _ _ _ Rem.p0 (HLe.st ⟨⟨⟨⟨trivial, DLe.refl _⟩, DLe.refl _⟩, DLe.refl _⟩, DLe.refl _⟩) (TkD.nil _))
 rintro v h ⟨rfl, rfl⟩
 have H := HK7; clear HK7
 refine GoK.code ?_
 refine GoC.seq ?_
 refine GoC.region ?_
 refine GoO.pure (ps_move rfl rfl) ?_
 refine GoO.pure (ps_assign rfl rfl) ?_
 refine GoO.pure (ps_assign rfl rfl) ?_
 refine GoO.nil ?_
 refine GoK.code ?_
 obtain rfl := Option.some.inj H
 exact GoC.retL (ds := [.v (.int .i64 x10), .v (.int .i64 0)]) Try.results58 (ResL.cons (ResD.tmp rfl) (ResL.cons (ResD.tmp rfl) (ResL.nil))) (Take.nil _) ⟨rfl, rfl⟩

def flow_amount_B1 (left : (List Int)) (arcs : (List Int)) : Nat → Int → Option (Int) := fun k16 x11 =>
 ck (0 ≤ (arcs.getD k16 (0 : Int)) ∧ (arcs.getD k16 (0 : Int)) < ((left.length : Nat) : Int)) <|
 some (min x11 (left.getD ((arcs.getD k16 (0 : Int)).toNat) (0 : Int)))
def flow_amount_F (left : (List Int)) (arcs : (List Int)) : Option (Piece) :=
 ck (0 < arcs.length) <|
 ck (0 ≤ (arcs.getD 0 (0 : Int)) ∧ (arcs.getD 0 (0 : Int)) < ((left.length : Nat) : Int)) <|
 (slices_Clone_int_F arcs).bind fun r4 =>
 (forN (flow_amount_B1 left arcs) arcs.length 0 (left.getD ((arcs.getD 0 (0 : Int)).toNat) (0 : Int))).bind fun x15 =>
 some (⟨x15, r4⟩ : Piece)
def flow_amount_P (out : Piece) (d : D) (H : List HL) : Prop := ∃ β1 : BK, d = .ag 2 (nth [.v (.int .i64 out.amount), .own β1 1 0 out.arcs.length]) ∧ H = [.one β1 3 1 (row out.arcs)]
theorem flow_amount_I (out : Piece) : IndepP (flow_amount_P out) := IndepP.of (by rintro _ _ ⟨β1, rfl, rfl⟩; exact ⟨inferInstance, inferInstance⟩)
set_option maxRecDepth 100000 in
set_option maxHeartbeats 4000000 in
theorem flow_amount_spec (left : (List Int)) (arcs : (List Int)) {out : Piece} (H : flow_amount_F left arcs = some out) : Does Try.prog 77 [slD left, slD arcs] [] (flow_amount_P out) := by
 unfold flow_amount_F at H
 refine Does.intro Try.func77 rfl Try.ntmps77 rfl fun w0 I0 => ?_
 refine GoC.seq ?_
 refine GoC.region ?_
 refine GoO.effB (ef_alloc rfl) (fun β1 => ?_)
 refine GoO.nil ?_
 refine GoK.code ?_
 refine GoC.seq ?_
 refine GoC.drawA (.q 0 (.q 1 (.q 2 (.q 3 (.q 4 (.q 5 (.q 6 (.two 7 9 (.q 8 (.one 9 (.one 10 (.done)))) (.one 7 (.q 8 (.one 10 (.done)))))))))))) follows (by kernel_rfl) ?_
 refine GoP.qN rfl (ps_move rfl rfl) ?_
 refine GoP.qN rfl (ps_move rfl rfl) ?_
 have c2 := ck_l H; replace H := ck_r H
 refine GoP.qN rfl (ps_indexAddrRN (i := 0) rfl rfl c2 rfl) ?_
 refine GoP.qN rfl (ps_loadR rfl c2 rfl rfl) ?_
 have c3 := ck_l H; replace H := ck_r H
 refine GoP.qN rfl (ps_indexAddrR rfl rfl c3 rfl) ?_
 refine GoP.qN rfl (ps_loadR rfl (idx_lt c3) rfl rfl) ?_
 refine GoP.qN rfl (ps_move rfl rfl) ?_
 have hb := bind_l H; clear H
 obtain ⟨r4, e6, H⟩ := hb
 apply GoP.fork2
 exact rfl
 exact rfl
 exact trivial
 exact trivial
 exact ef_call rfl (Take.nil _) (Take.nil _) (slices_Clone_int_spec arcs e6) (LendL.cons (Lend.refl _ _) (LendL.nil)) rfl (slices_Clone_int_I (r4))
 exact ef_alloc rfl
 exact (Take.cons _ _ _ _ _ Rem.p0 (Take.nil _))
 exact (Take.cons _ _ _ _ _ Rem.p0 (Take.nil _))
 intro hQ
 rintro _ ⟨_, _, hp, rfl⟩
 obtain ⟨β5, rfl, rfl⟩ := hp
 refine GoP.qN rfl (ps_build (Parts.cons _ _ _ _ _ _ _ _ FdP.of (Part.one _ rfl rfl) rfl rfl (Parts.cons _ _ _ _ _ _ _ _ FdP.of (Part.one _ rfl rfl) rfl rfl (Parts.nil _))) rfl) ?_
 refine GoP.oneB rfl trivial (ef_alloc rfl) (Take.cons _ _ _ _ _ Rem.p1 (Take.nil _)) (fun β9 => ?_)
 refine GoP.one1 rfl trivial (ef_storeAg rfl rfl At.p0 upd_whole Nat.zero_lt_one rfl) (Take.cons _ _ _ _ _ Rem.p0 (Take.cons _ _ _ _ _ Rem.p1 (Take.nil _))) ?_
 exact GoP.done (hQ β5 β9)
 intro hQ
 rintro _ ⟨β8, rfl⟩
 refine GoP.oneC rfl trivial (ef_call rfl (Take.nil _) (Take.nil _) (slices_Clone_int_spec arcs e6) (LendL.cons (Lend.refl _ _) (LendL.nil)) rfl (slices_Clone_int_I (r4))) (Take.cons _ _ _ _ _ Rem.p1 (Take.nil _)) (fun rr HH hp => ?_)
 obtain ⟨β5, rfl, rfl⟩ := hp
 refine GoP.qN rfl (ps_build (Parts.cons _ _ _ _ _ _ _ _ FdP.of (Part.one _ rfl rfl) rfl rfl (Parts.cons _ _ _ _ _ _ _ _ FdP.of (Part.one _ rfl rfl) rfl rfl (Parts.nil _))) rfl) ?_
 refine GoP.one1 rfl trivial (ef_storeAg rfl rfl At.p1 upd_whole Nat.zero_lt_one rfl) (Take.cons _ _ _ _ _ Rem.p1 (Take.cons _ _ _ _ _ Rem.p1 (Take.nil _))) ?_
 refine GoP.done (GoK.le ?_ (hQ β5 β8))
 refine Le.ofDW ?_ (TkD.cons _ _ _ _ _ Rem.p1 (HLe.refl _) (TkD.cons _ _ _ _ _ Rem.p0 (HLe.refl _) (TkD.cons _ _ _ _ _ Rem.p0 (HLe.refl _) (TkD.nil _))))
 repeat (first | exact EnvLeW.nil | refine EnvLeW.cons rfl ?_ | refine EnvLeW.skip rfl ?_)
 intro β5 β9
 refine GoK.code ?_
 refine GoC.seq ?_
 refine GoC.seq ?_
 refine GoC.region ?_
 refine GoO.pure (ps_move rfl rfl) ?_
 refine GoO.pure (ps_len rfl (by constructor) rfl) ?_
 refine GoO.lenLe (n := arcs.length) (x := .tmp 17) rfl (by constructor) sl_lenLe (fun ml10 => ?_)
 refine GoO.pure (ps_move rfl rfl) ?_
 refine GoO.nil ?_
 refine GoK.code ?_
 have hb := bind_l H; clear H
 obtain ⟨x15, hl19, HK12⟩ := hb
 refine GoC.blockJ [(4, .ptr β1 2 0 0)] [.one β5 3 1 (row r4), .one β1 50 2 (st1 (nth [.v (.int .i64 0), .v (.slice none 0 0)]))] (fun v h => v = [(5, .ptr β9 2 0 0)] ∧ h = [.one β9 50 2 (st1 (nth [.v (.int .i64 x15), .own β5 1 0 r4.length]))]) ?_ ?_
 refine GoC.loopJ [(0, _), (4, _), (17, _), (18, _)] [.one β5 3 1 (row r4), .one β1 50 2 (st1 (nth [.v (.int .i64 0), .v (.slice none 0 0)]))] (fun mQ v h => ∃ (k16 : Nat) (x11 : Int), (k16 + mQ = arcs.length ∧ forN (flow_amount_B1 left arcs) mQ k16 x11 = some x15) ∧ v = [(19, .v (.int .i64 ((k16 : Nat) : Int))), (5, .ptr β9 2 0 0)] ∧ h = [.one β9 50 2 (st1 (nth [.v (.int .i64 x11), .own β5 1 0 r4.length]))]) arcs.length ⟨_, _, ⟨by omega, hl19⟩, rfl, rfl⟩ (EnvD.eq rfl (EnvD.eq rfl (EnvD.eq rfl (EnvD.eq rfl (EnvD.eq rfl (EnvD.eq rfl (EnvD.nil))))))) (TkD.cons _ _ _ _ _ Rem.p0 (HLe.st ⟨⟨trivial, DLe.refl _⟩, DLe.refl _⟩) (TkD.cons _ _ _ _ _ Rem.p0 (HLe.refl _) (TkD.cons _ _ _ _ _ Rem.p0 (HLe.st ⟨⟨trivial, DLe.refl _⟩, DLe.refl _⟩) (TkD.nil _)))) ?_
 rintro m17 v h ⟨k16, x11, ⟨hkk16, hF13⟩, rfl, rfl⟩
 refine GoC.seq ?_
 refine GoC.region ?_
 refine GoO.pure (ps_lss rfl rfl rfl) ?_
 refine GoO.nil ?_
 refine GoK.code ?_
 refine GoC.seq ?_
 refine GoC.condD rfl (fun (hk16 : (k16 : Int) < ((arcs.length : Nat) : Int)) => ?_) (fun (hk16 : ¬ (k16 : Int) < ((arcs.length : Nat) : Int)) => ?_)
 obtain ⟨m17', rfl⟩ : ∃ x, m17 = x + 1 := ⟨m17 - 1, by omega⟩
 have hb := bind_l hF13; clear hF13
 obtain ⟨qrm17, H, hF13⟩ := hb
 have hnk16 : k16 < arcs.length := by omega
 have hIk16 : InI ((k16 : Int) + 1) := inI_len hk16 ml10
 refine GoC.skip ?_
 refine GoK.code ?_
 refine GoC.seq ?_
 refine GoC.block ?_
 refine GoC.seq ?_
 refine GoC.region ?_
 refine GoO.pure (ps_indexAddrRN rfl rfl hnk16 rfl) ?_
 refine GoO.pure (ps_loadR rfl hnk16 rfl rfl) ?_
 refine GoO.pure (ps_assign rfl rfl) ?_
 refine GoO.nil ?_
 refine GoK.code ?_
 refine GoC.drawP (.q 0 (.q 2 (.q 3 (.q 4 (.q 5 (.one 1 (.q 6 (.q 7 (.one 8 (.done)))))))))) [] follows (by kernel_rfl) (Take.nil _) ?_
 refine GoP.qN rfl (ps_fieldAddr rfl rfl) ?_
 refine GoP.qN rfl (ps_move rfl rfl) ?_
 refine GoP.qN rfl (ps_move rfl rfl) ?_
 have c18 := ck_l H; replace H := ck_r H
 refine GoP.qN rfl (ps_indexAddrR rfl rfl c18 rfl) ?_
 refine GoP.qN rfl (ps_loadR rfl (idx_lt c18) rfl rfl) ?_
 refine GoP.oneN rfl (ps_load rfl At.p0 At.p0 Nat.zero_lt_one rfl rfl) (Take.nil _) ?_
 refine GoP.qN rfl (ps_min rfl rfl rfl) ?_
 refine GoP.qN rfl (ps_fieldAddr rfl rfl) ?_
 refine GoP.one1 rfl trivial (ef_store rfl rfl rfl At.p0 upd_st1 Nat.zero_lt_one rfl) (Take.cons _ _ _ _ _ Rem.p0 (Take.nil _)) ?_
 refine GoP.done ?_
 refine GoK.blk ?_
 refine GoK.code ?_
 refine GoC.region ?_
 refine GoO.pure (ps_add rfl rfl rfl hIk16) ?_
 refine GoO.pure (ps_move rfl rfl) ?_
 refine GoO.nil ?_
 obtain rfl := Option.some.inj H
 exact GoK.againJ m17' (by omega) ⟨_, _, ⟨by omega, hF13⟩, rfl, rfl⟩ (EnvD.eq rfl (EnvD.eq rfl (EnvD.eq rfl (EnvD.eq rfl (EnvD.eq rfl (EnvD.eq rfl (EnvD.nil))))))) (TkD.cons _ _ _ _ _ Rem.p0 (HLe.st ⟨⟨trivial, DLe.refl _⟩, DLe.refl _⟩) (TkD.cons _ _ _ _ _ Rem.p0 (HLe.refl _) (TkD.cons _ _ _ _ _ Rem.p0 (HLe.st ⟨⟨trivial, DLe.refl _⟩, DLe.refl _⟩) (TkD.nil _))))
 obtain rfl : m17 = 0 := by omega
 refine GoC.exit rfl ?_
 cases hF13
 exact GoK.meet ⟨rfl, rfl⟩ (EnvD.eq rfl (EnvD.eq rfl (EnvD.nil))) (TkD.cons _ _ _ _ _ Rem.p0 (HLe.st ⟨⟨trivial, DLe.refl _⟩, DLe.refl _⟩) (TkD.cons _ _ _ _ _ Rem.p0 (HLe.refl _) (TkD.cons _ _ _ _ _ Rem.p0 (HLe.st ⟨⟨trivial, DLe.refl _⟩, DLe.refl _⟩) (TkD.nil _))))
 rintro v h ⟨rfl, rfl⟩
 have H := HK12; clear HK12
 refine GoK.code ?_
 refine GoC.seq ?_
 refine GoC.region ?_
 refine GoO.pure (ps_loadAg rfl At.p0 At.p0 Nat.zero_lt_one rfl rfl) ?_
 refine GoO.eff1 (ef_storeAg rfl rfl At.p2 upd_whole Nat.zero_lt_one rfl) ?_
 refine GoO.nil ?_
 refine GoK.code ?_
 obtain rfl := Option.some.inj H
 exact GoC.retL (ds := [.ag 2 (nth [.v (.int .i64 x15), .own β5 1 0 r4.length])]) Try.results77 (ResL.cons (ResD.le (ResD.cellAg rfl At.p2 Nat.zero_lt_one rfl) (by exact DLe.ag ⟨⟨trivial, DLe.refl _⟩, DLe.refl _⟩)) (ResL.nil)) (Take.cons _ _ _ _ _ Rem.p1 (Take.nil _)) ⟨β5, rfl, rfl⟩

def flow_piece_c1_F (p0 : Arc) (c_0 : Int) : Option (Bool) :=
 some (decide (p0.f = c_0))
def flow_piece_c1_P (out : Bool) (d : D) (H : List HL) : Prop := d = .v (.bool out) ∧ H = []
theorem flow_piece_c1_I (out : Bool) : IndepP (flow_piece_c1_P out) := IndepP.of (by rintro _ _ ⟨rfl, rfl⟩; exact ⟨inferInstance, inferInstance⟩)
set_option maxRecDepth 100000 in
set_option maxHeartbeats 4000000 in
theorem flow_piece_c1_spec (p0 : Arc) (c_0 : Int) {out : Bool} (H : flow_piece_c1_F p0 c_0 = some out) : Does Try.prog 76 [.ag 3 (nth [.v (.int .i64 p0.f), .v (.int .i64 p0.t), .v (.int .i64 p0.c)]), .rp 1 1 (row [c_0]).get 0 0] [] (flow_piece_c1_P out) := by
 unfold flow_piece_c1_F at H
 refine Does.intro Try.func76 rfl Try.ntmps76 rfl fun w0 I0 => ?_
 refine GoC.seq ?_
 refine GoC.region ?_
 refine GoO.effB (ef_boxAg rfl rfl) (fun β1 => ?_)
 refine GoO.pure (ps_assign rfl rfl) ?_
 refine GoO.nil ?_
 refine GoK.code ?_
 refine GoC.seq ?_
 refine GoC.region ?_
 refine GoO.pure (ps_fieldAddr rfl rfl) ?_
 refine GoO.pure (ps_load rfl At.p0 At.p0 Nat.zero_lt_one rfl rfl) ?_
 refine GoO.pure (ps_loadR rfl Nat.zero_lt_one rfl rfl) ?_
 refine GoO.pure (ps_eql rfl rfl rfl) ?_
 refine GoO.pure (ps_assign rfl rfl) ?_
 refine GoO.nil ?_
 refine GoK.code ?_
 obtain rfl := Option.some.inj H
 exact GoC.retL (ds := [.v (.bool (decide (p0.f = c_0)))]) Try.results76 (ResL.cons (ResD.tmp rfl) (ResL.nil)) (Take.nil _) ⟨rfl, rfl⟩

def slices_IndexFunc_Arc_flow_piece_c1_B1 (p0 : (List Arc)) (c1_0 : Int) : Nat → Unit → Option (Ct (Unit) (Int)) := fun k5 _ =>
 (flow_piece_c1_F (p0.getD k5 El.d) c1_0).bind fun r7 =>
 if r7 = true then
  some (.ret ((k5 : Nat) : Int))
 else
  some (.go ())
def slices_IndexFunc_Arc_flow_piece_c1_F (p0 : (List Arc)) (c1_0 : Int) : Option (Int) :=
 (forC (slices_IndexFunc_Arc_flow_piece_c1_B1 p0 c1_0) p0.length 0 ()).bind fun q => match q with
 | .go _ =>
  some (-1)
 | .ret x => some x
def slices_IndexFunc_Arc_flow_piece_c1_P (out : Int) (d : D) (H : List HL) : Prop := d = .v (.int .i64 out) ∧ H = []
theorem slices_IndexFunc_Arc_flow_piece_c1_I (out : Int) : IndepP (slices_IndexFunc_Arc_flow_piece_c1_P out) := IndepP.of (by rintro _ _ ⟨rfl, rfl⟩; exact ⟨inferInstance, inferInstance⟩)
set_option maxRecDepth 100000 in
set_option maxHeartbeats 4000000 in
theorem slices_IndexFunc_Arc_flow_piece_c1_spec (p0 : (List Arc)) (c1_0 : Int) {out : Int} (H : slices_IndexFunc_Arc_flow_piece_c1_F p0 c1_0 = some out) : Does Try.prog 75 [slD p0, .fn 76 1 (nth [.rp 1 1 (row [c1_0]).get 0 0])] [] (slices_IndexFunc_Arc_flow_piece_c1_P out) := by
 unfold slices_IndexFunc_Arc_flow_piece_c1_F at H
 refine Does.intro Try.func75 rfl Try.ntmps75 rfl fun w0 I0 => ?_
 refine GoC.seq ?_
 refine GoC.region ?_
 refine GoO.pure (ps_assign rfl rfl) ?_
 refine GoO.nil ?_
 refine GoK.code ?_
 refine GoC.seq ?_
 refine GoC.seq ?_
 refine GoC.region ?_
 refine GoO.pure (ps_move rfl rfl) ?_
 refine GoO.pure (ps_len rfl (by constructor) rfl) ?_
 refine GoO.lenLe (n := p0.length) (x := .tmp 6) rfl (by constructor) sl_lenLe (fun ml1 => ?_)
 refine GoO.pure (ps_move rfl rfl) ?_
 refine GoO.nil ?_
 refine GoK.code ?_
 have hb := bind_l H; clear H
 obtain ⟨q4, hl10, HK2⟩ := hb
 refine GoC.blockJ [] [] (fun v h => q4 = .go () ∧ v = [] ∧ h = []) ?_ ?_
 refine GoC.loopJ [(0, _), (1, _), (7, _)] [] (fun mQ v h => ∃ (k5 : Nat), (k5 + mQ = p0.length ∧ forC (slices_IndexFunc_Arc_flow_piece_c1_B1 p0 c1_0) mQ k5 () = some q4) ∧ v = [(8, .v (.int .i64 ((k5 : Nat) : Int)))] ∧ h = []) p0.length ⟨_, ⟨by omega, hl10⟩, rfl, rfl⟩ (EnvD.eq rfl (EnvD.eq rfl (EnvD.eq rfl (EnvD.eq rfl (EnvD.nil))))) (TkD.nil _) ?_
 rintro m6 v h ⟨k5, ⟨hkk5, hF3⟩, rfl, rfl⟩
 refine GoC.seq ?_
 refine GoC.region ?_
 refine GoO.pure (ps_lss rfl rfl rfl) ?_
 refine GoO.nil ?_
 refine GoK.code ?_
 refine GoC.seq ?_
 refine GoC.condD rfl (fun (hk5 : (k5 : Int) < ((p0.length : Nat) : Int)) => ?_) (fun (hk5 : ¬ (k5 : Int) < ((p0.length : Nat) : Int)) => ?_)
 obtain ⟨m6', rfl⟩ : ∃ x, m6 = x + 1 := ⟨m6 - 1, by omega⟩
 have hb := bind_l hF3; clear hF3
 obtain ⟨qrm6, H, hF3⟩ := hb
 have hnk5 : k5 < p0.length := by omega
 have hIk5 : InI ((k5 : Int) + 1) := inI_len hk5 ml1
 refine GoC.skip ?_
 refine GoK.code ?_
 refine GoC.seq ?_
 refine GoC.block ?_
 refine GoC.seq ?_
 refine GoC.region ?_
 refine GoO.pure (ps_move rfl rfl) ?_
 refine GoO.pure (ps_assign rfl rfl) ?_
 refine GoO.nil ?_
 refine GoK.code ?_
 refine GoC.seq ?_
 refine GoC.region ?_
 refine GoO.pure (ps_move rfl rfl) ?_
 refine GoO.pure (ps_move rfl rfl) ?_
 refine GoO.pure (ps_move rfl rfl) ?_
 refine GoO.pure (ps_indexAddrRN rfl rfl hnk5 rfl) ?_
 refine GoO.pure (ps_loadAgR rfl hnk5 rfl rfl) ?_
 have hb := bind_l H; clear H
 obtain ⟨r7, e8, H⟩ := hb
 refine GoO.effC (ef_callv rfl rfl rfl (Take.nil _) (Take.nil _) (flow_piece_c1_spec (p0.getD k5 El.d) c1_0 e8) (LendL.cons (Lend.agA ⟨⟨⟨trivial, Lend.refl _ _⟩, Lend.refl _ _⟩, Lend.refl _ _⟩) (LendL.cons (Lend.refl _ _) (LendL.nil))) rfl (flow_piece_c1_I (r7))) (fun rr HH hp => ?_)
 obtain ⟨rfl, rfl⟩ := hp
 refine GoO.nil ?_
 refine GoK.code ?_
 refine GoC.cond rfl (fun h9 => ?_) (fun h9 => ?_)
 replace H := itb_t h9 H
 refine GoC.seq ?_
 refine GoC.region ?_
 refine GoO.pure (ps_move rfl rfl) ?_
 refine GoO.pure (ps_assign rfl rfl) ?_
 refine GoO.nil ?_
 refine GoK.code ?_
 obtain rfl := Option.some.inj H
 obtain rfl := Option.some.inj hF3
 obtain rfl := Option.some.inj HK2
 exact GoC.retL (ds := [.v (.int .i64 ((k5 : Nat) : Int))]) Try.results75 (ResL.cons (ResD.tmp rfl) (ResL.nil)) (Take.nil _) ⟨rfl, rfl⟩
 replace H := itb_f h9 H
 refine GoC.skip ?_
 refine GoK.blk ?_
 refine GoK.code ?_
 refine GoC.region ?_
 refine GoO.pure (ps_add rfl rfl rfl hIk5) ?_
 refine GoO.pure (ps_move rfl rfl) ?_
 refine GoO.nil ?_
 obtain rfl := Option.some.inj H
 exact GoK.againJ m6' (by omega) ⟨_, ⟨by omega, hF3⟩, rfl, rfl⟩ (EnvD.eq rfl (EnvD.eq rfl (EnvD.eq rfl (EnvD.eq rfl (EnvD.nil))))) (TkD.nil _)
 obtain rfl : m6 = 0 := by omega
 refine GoC.exit rfl ?_
 cases hF3
 exact GoK.meet ⟨rfl, rfl, rfl⟩ (EnvD.nil) (TkD.nil _)
 rintro v h ⟨rfl, rfl, rfl⟩
 have H := HK2; clear HK2
 refine GoK.code ?_
 refine GoC.seq ?_
 refine GoC.region ?_
 refine GoO.pure (ps_assign rfl rfl) ?_
 refine GoO.nil ?_
 refine GoK.code ?_
 obtain rfl := Option.some.inj H
 exact GoC.retL (ds := [.v (.int .i64 (-1))]) Try.results75 (ResL.cons (ResD.tmp rfl) (ResL.nil)) (Take.nil _) ⟨rfl, rfl⟩

def flow_piece_B2 (n : Net) (left : (List Int)) (x5 : Int) : Int → Option (Ct (Int) (Ct (Int × (List Int) × (List (Int × Int))) (Piece × Bool))) := fun x19 =>
 ((
  ck (0 ≤ x19 ∧ x19 < ((left.length : Nat) : Int)) <|
  if (left.getD x19.toNat (0 : Int)) = 0 then
   some (.go ())
  else
   ck (0 ≤ x19 ∧ x19 < ((n.as.length : Nat) : Int)) <|
   if ((n.as.getD x19.toNat El.d).f) ≠ x5 then
    some (.go ())
   else
    some (.ret (.brk x19))) : Option (Ex (Unit) (Ct (Int) (Ct (Int × (List Int) × (List (Int × Int))) (Piece × Bool))))).bind fun q => match q with
 | .go () =>
  ck (InI (x19 + 1)) <|
  some (.go (x19 + 1))
 | .ret x => some x
def flow_piece_B1 (n : Net) (left : (List Int)) : (Int × (List Int) × (List (Int × Int))) → Option (Ct (Int × (List Int) × (List (Int × Int))) (Piece × Bool)) := fun (x5, l7, mm8) =>
 if x5 ≠ n.t then
  (slices_IndexFunc_Arc_flow_piece_c1_F n.as x5).bind fun r17 =>
  (loopC (flow_piece_B2 n left x5) 1000000 r17).bind fun q => match q with
  | .go x23 =>
   ck (l7.length + 1 ≤ 17592186044416) <|
   ck (0 ≤ x23 ∧ x23 < ((n.as.length : Nat) : Int)) <|
   if (mget mm8 ((n.as.getD x23.toNat El.d).t)).isSome = true then
    ck (0 ≤ ((mget mm8 ((n.as.getD x23.toNat El.d).t)).getD 0)) <|
    ck (((mget mm8 ((n.as.getD x23.toNat El.d).t)).getD 0).toNat ≤ (l7.length + 1)) <|
    (flow_amount_F left (subl (l7 ++ ([x23] : List Int)) (((mget mm8 ((n.as.getD x23.toNat El.d).t)).getD 0).toNat) ((l7.length + 1) - ((mget mm8 ((n.as.getD x23.toNat El.d).t)).getD 0).toNat))).bind fun r41 =>
    some (.ret (r41, true))
   else
    some (.go ((n.as.getD x23.toNat El.d).t, (l7 ++ ([x23] : List Int)), (mset mm8 ((n.as.getD x23.toNat El.d).t) (((l7.length + 1) : Nat) : Int))))
  | .ret x => some x
 else
  some (.brk (x5, l7, mm8))
def flow_piece_F (n : Net) (left : (List Int)) (at_ : Int) : Option (Piece × Bool) :=
 (loopC (flow_piece_B1 n left) 1000000 (at_, [], (mset ([] : List (Int × Int)) at_ 0))).bind fun q => match q with
 | .go (x12, l13, mm14) =>
  (flow_amount_F left l13).bind fun r46 =>
  some (r46, false)
 | .ret x => some x
def flow_piece_P (out : Piece × Bool) (d : D) (H : List HL) : Prop := ∃ β1 : BK, d = .tp 2 (nth [.ag 2 (nth [.v (.int .i64 out.1.amount), .own β1 1 0 out.1.arcs.length]), .v (.bool out.2)]) ∧ H = [.one β1 3 1 (row out.1.arcs)]
theorem flow_piece_I (out : Piece × Bool) : IndepP (flow_piece_P out) := IndepP.of (by rintro _ _ ⟨β1, rfl, rfl⟩; exact ⟨inferInstance, inferInstance⟩)
set_option maxRecDepth 100000 in
set_option maxHeartbeats 4000000 in
theorem flow_piece_spec (n : Net) (left : (List Int)) (at_ : Int) {out : Piece × Bool} (H : flow_piece_F n left at_ = some out) : Does Try.prog 60 [.ag 4 (nth [.v (.int .i64 n.n), .v (.int .i64 n.s), .v (.int .i64 n.t), slD n.as]), slD left, .v (.int .i64 at_)] [] (flow_piece_P out) := by
 unfold flow_piece_F at H
 refine Does.intro Try.func60 rfl Try.ntmps60 rfl fun w0 I0 => ?_
 refine GoC.seq ?_
 refine GoC.region ?_
 refine GoO.effB (ef_boxAg rfl rfl) (fun β1 => ?_)
 refine GoO.effB (ef_box rfl rfl rfl) (fun β2 => ?_)
 refine GoO.effB (ef_alloc rfl) (fun β3 => ?_)
 refine GoO.pure (ps_assign rfl rfl) ?_
 refine GoO.nil ?_
 refine GoK.code ?_
 refine GoC.seq ?_
 refine GoC.region ?_
 refine GoO.pure (ps_assign rfl rfl) ?_
 refine GoO.nil ?_
 refine GoK.code ?_
 refine GoC.seq ?_
 refine GoC.region ?_
 refine GoO.effB (ef_makeMap rfl) (fun β4 => ?_)
 refine GoO.pure (ps_load rfl At.p2 At.p2 Nat.zero_lt_one rfl rfl) ?_
 refine GoO.eff1 (ef_mapIns rfl rfl rfl At.p0) ?_
 refine GoO.pure (ps_move rfl rfl) ?_
 refine GoO.pure (ps_assign rfl rfl) ?_
 refine GoO.nil ?_
 refine GoK.code ?_
 refine GoC.seq ?_
 have hb := bind_l H; clear H
 obtain ⟨q11, hl45, HK9⟩ := hb
 refine GoC.blockJ [(1, slD left), (6, .ptr β3 2 0 0)] [.one β3 50 2 (st1 (nth [.v (.int .i64 0), .v (.slice none 0 0)])), .one β1 62 4 (st1 (nth [.v (.int .i64 n.n), .v (.int .i64 n.s), .v (.int .i64 n.t), slD n.as]))] (fun v h => ∃ (x12 : Int) (l13 : (List Int)) (mm14 : (List (Int × Int))) (β6 : BK), q11 = .go (x12, l13, mm14) ∧ v = [(8, .own β6 1 0 l13.length)] ∧ h = [.one β2 3 1 (st1 (nth [.v (.int .i64 x12)])), .one β6 3 1 (row l13), .mp β4 mm14]) ?_ ?_
 refine GoC.loopJ [(1, _), (3, _), (6, _)] [.one β3 50 2 (st1 (nth [.v (.int .i64 0), .v (.slice none 0 0)])), .one β1 62 4 (st1 (nth [.v (.int .i64 n.n), .v (.int .i64 n.s), .v (.int .i64 n.t), slD n.as]))] (fun mQ v h => ∃ (x5 : Int) (l7 : (List Int)) (mm8 : (List (Int × Int))) (β6 : BK), loopC (flow_piece_B1 n left) mQ (x5, l7, mm8) = some q11 ∧ v = [(5, .ptr β2 1 0 0), (8, .own β6 1 0 l7.length), (9, .v (.map (some β4.b)))] ∧ h = [.one β2 3 1 (st1 (nth [.v (.int .i64 x5)])), .one β6 3 1 (row l7), .mp β4 mm8]) 1000000 ⟨_, _, _, ⟨0, 0, 0⟩, hl45, rfl, rfl⟩ (EnvD.eq rfl (EnvD.cons rfl (DLe.nilOwn) (EnvD.eq rfl (EnvD.eq rfl (EnvD.eq rfl (EnvD.eq rfl (EnvD.nil))))))) (TkD.cons _ _ _ _ _ Rem.p2 (HLe.st ⟨trivial, DLe.refl _⟩) (TkD.no _ _ _ _ _ rfl (TkD.cons _ _ _ _ _ Rem.p0 (HLe.refl _) (TkD.cons _ _ _ _ _ Rem.p0 (HLe.st ⟨⟨trivial, DLe.refl _⟩, DLe.refl _⟩) (TkD.cons _ _ _ _ _ Rem.p0 (HLe.st ⟨⟨⟨⟨trivial, DLe.refl _⟩, DLe.refl _⟩, DLe.refl _⟩, DLe.refl _⟩) (TkD.nil _)))))) ?_
 rintro m15 v h ⟨x5, l7, mm8, β6, hF10, rfl, rfl⟩
 obtain ⟨m15', rfl⟩ | rfl : (∃ x, m15 = x + 1) ∨ m15 = 0 := by cases m15 <;> simp
 case inr => cases hF10
 have hb := bind_l hF10; clear hF10
 obtain ⟨qrm15, H, hF10⟩ := hb
 refine GoC.seq ?_
 refine GoC.seq ?_
 refine GoC.region ?_
 refine GoO.pure (ps_load rfl At.p0 At.p0 Nat.zero_lt_one rfl rfl) ?_
 refine GoO.pure (ps_fieldAddr rfl rfl) ?_
 refine GoO.pure (ps_load rfl At.p4 At.p4 Nat.zero_lt_one rfl rfl) ?_
 refine GoO.pure (ps_neq rfl rfl rfl) ?_
 refine GoO.nil ?_
 refine GoK.code ?_
 refine GoC.condD rfl (fun h16 => ?_) (fun h16 => ?_)
 replace H := ite_t h16 H
 refine GoC.skip ?_
 refine GoK.code ?_
 refine GoC.block ?_
 refine GoC.seq ?_
 refine GoC.region ?_
 refine GoO.pure (ps_fieldAddr rfl rfl) ?_
 refine GoO.pure (ps_load rfl At.p4 At.p4 Nat.zero_lt_one rfl rfl) ?_
 refine GoO.pure (ps_makeFunc rfl rfl rfl) ?_
 have hb := bind_l H; clear H
 obtain ⟨r17, e18, H⟩ := hb
 refine GoO.effC (ef_call rfl (Take.nil _) (Take.cons _ _ _ _ _ Rem.p0 (Take.nil _)) (slices_IndexFunc_Arc_flow_piece_c1_spec n.as x5 e18) (LendL.cons (Lend.refl _ _) (LendL.cons (Lend.fn (LendL.cons (Lend.box (ds := [.v (.int .i64 x5)]) At.p0 rfl (by decide) ⟨trivial, rfl⟩ (LendL.cons (Lend.refl _ _) (LendL.nil)) ⟨trivial, rfl⟩ rfl) (LendL.nil))) (LendL.nil))) rfl (slices_IndexFunc_Arc_flow_piece_c1_I (r17))) (fun rr HH hp => ?_)
 obtain ⟨rfl, rfl⟩ := hp
 refine GoO.pure (ps_assign rfl rfl) ?_
 refine GoO.nil ?_
 refine GoK.code ?_
 refine GoC.seq ?_
 have hb := bind_l H; clear H
 obtain ⟨q22, hl32, HK20⟩ := hb
 refine GoC.blockJ [(1, slD left), (3, .ptr β1 4 0 0), (5, .ptr β2 1 0 0), (6, .ptr β3 2 0 0), (8, .own β6 1 0 l7.length), (9, .v (.map (some β4.b)))] [.one β2 3 1 (st1 (nth [.v (.int .i64 x5)])), .one β6 3 1 (row l7), .mp β4 mm8, .one β3 50 2 (st1 (nth [.v (.int .i64 0), .v (.slice none 0 0)])), .one β1 62 4 (st1 (nth [.v (.int .i64 n.n), .v (.int .i64 n.s), .v (.int .i64 n.t), slD n.as]))] (fun v h => ∃ (x23 : Int), q22 = .go x23 ∧ v = [(10, .v (.int .i64 x23))] ∧ h = []) ?_ ?_
 refine GoC.loopJ [(1, _), (3, _), (5, _), (6, _), (8, _), (9, _)] [.one β2 3 1 (st1 (nth [.v (.int .i64 x5)])), .one β6 3 1 (row l7), .mp β4 mm8, .one β3 50 2 (st1 (nth [.v (.int .i64 0), .v (.slice none 0 0)])), .one β1 62 4 (st1 (nth [.v (.int .i64 n.n), .v (.int .i64 n.s), .v (.int .i64 n.t), slD n.as]))] (fun mQ v h => ∃ (x19 : Int), loopC (flow_piece_B2 n left x5) mQ x19 = some q22 ∧ v = [(10, .v (.int .i64 x19))] ∧ h = []) 1000000 ⟨_, hl32, rfl, rfl⟩ (EnvD.eq rfl (EnvD.eq rfl (EnvD.eq rfl (EnvD.eq rfl (EnvD.eq rfl (EnvD.eq rfl (EnvD.eq rfl (EnvD.nil)))))))) (TkD.cons _ _ _ _ _ Rem.p0 (HLe.st ⟨trivial, DLe.refl _⟩) (TkD.cons _ _ _ _ _ Rem.p0 (HLe.refl _) (TkD.cons _ _ _ _ _ Rem.p0 (HLe.refl _) (TkD.cons _ _ _ _ _ Rem.p0 (HLe.st ⟨⟨trivial, DLe.refl _⟩, DLe.refl _⟩) (TkD.cons _ _ _ _ _ Rem.p0 (HLe.st ⟨⟨⟨⟨trivial, DLe.refl _⟩, DLe.refl _⟩, DLe.refl _⟩, DLe.refl _⟩) (TkD.nil _)))))) ?_
 rintro m24 v h ⟨x19, hF21, rfl, rfl⟩
 obtain ⟨m24', rfl⟩ | rfl : (∃ x, m24 = x + 1) ∨ m24 = 0 := by cases m24 <;> simp
 case inr => cases hF21
 have hb := bind_l hF21; clear hF21
 obtain ⟨qrm24, H, hF21⟩ := hb
 have hb := bind_l H; clear H
 obtain ⟨q26, H, HK25⟩ := hb
 refine GoC.seqJ [(1, slD left), (3, .ptr β1 4 0 0), (5, .ptr β2 1 0 0), (6, .ptr β3 2 0 0), (8, .own β6 1 0 l7.length), (9, .v (.map (some β4.b))), (10, .v (.int .i64 x19))] [.one β2 3 1 (st1 (nth [.v (.int .i64 x5)])), .one β6 3 1 (row l7), .mp β4 mm8, .one β3 50 2 (st1 (nth [.v (.int .i64 0), .v (.slice none 0 0)])), .one β1 62 4 (st1 (nth [.v (.int .i64 n.n), .v (.int .i64 n.s), .v (.int .i64 n.t), slD n.as]))] (fun v h => q26 = .go () ∧ v = [] ∧ h = []) ?_ ?_
 refine GoC.seq ?_
 refine GoC.drawA (.q 0 (.q 1 (.q 2 (.q 3 (.q 4 (.q 5 (.q 6 (.q 7 (.q 8 (.q 9 (.q 10 (.q 11 (.q 12 (.q 13 (.q 14 (.done)))))))))))))))) follows (by kernel_rfl) ?_
 refine GoP.qN rfl (ps_move rfl rfl) ?_
 refine GoP.qN rfl (ps_move rfl rfl) ?_
 have c27 := ck_l H; replace H := ck_r H
 refine GoP.qN rfl (ps_indexAddrR rfl rfl c27 rfl) ?_
 refine GoP.qN rfl (ps_loadR rfl (idx_lt c27) rfl rfl) ?_
 refine GoP.qN rfl (ps_eql rfl rfl rfl) ?_
 refine GoP.qN rfl (ps_move rfl rfl) ?_
 refine GoP.decideD 29 rfl (fun h28 => ?_) (fun h28 => ?_)
 replace H := ite_t h28 H
 refine GoP.qF rfl rfl rfl rfl rfl ?_
 refine GoP.qF rfl rfl rfl rfl rfl ?_
 refine GoP.qF rfl rfl rfl rfl rfl ?_
 refine GoP.qF rfl rfl rfl rfl rfl ?_
 refine GoP.qF rfl rfl rfl rfl rfl ?_
 refine GoP.qF rfl rfl rfl rfl rfl ?_
 refine GoP.qF rfl rfl rfl rfl rfl ?_
 refine GoP.qF rfl rfl rfl rfl rfl ?_
 refine GoP.qN rfl (ps_pickT rfl rfl rfl) ?_
 refine GoP.done ?_
 refine GoK.code ?_
 refine GoC.condT rfl ?_
 refine GoC.skip ?_
 obtain rfl := Option.some.inj H
 exact GoK.meet ⟨rfl, rfl, rfl⟩ (EnvD.eq rfl (EnvD.eq rfl (EnvD.eq rfl (EnvD.eq rfl (EnvD.eq rfl (EnvD.eq rfl (EnvD.eq rfl (EnvD.nil)))))))) (TkD.cons _ _ _ _ _ Rem.p0 (HLe.st ⟨trivial, DLe.refl _⟩) (TkD.cons _ _ _ _ _ Rem.p0 (HLe.refl _) (TkD.cons _ _ _ _ _ Rem.p0 (HLe.refl _) (TkD.cons _ _ _ _ _ Rem.p0 (HLe.st ⟨⟨trivial, DLe.refl _⟩, DLe.refl _⟩) (TkD.cons _ _ _ _ _ Rem.p0 (HLe.st ⟨⟨⟨⟨trivial, DLe.refl _⟩, DLe.refl _⟩, DLe.refl _⟩, DLe.refl _⟩) (TkD.nil _))))))
 replace H := ite_f h28 H
 refine GoP.qT rfl rfl rfl rfl (ps_fieldAddr rfl rfl) ?_
 refine GoP.qT rfl rfl rfl rfl (ps_load rfl At.p4 At.p4 Nat.zero_lt_one rfl rfl) ?_
 refine GoP.qT rfl rfl rfl rfl (ps_move rfl rfl) ?_
 have c29 := ck_l H; replace H := ck_r H
 refine GoP.qT rfl rfl rfl rfl (ps_indexAddrR rfl rfl c29 rfl) ?_
 refine GoP.qT rfl rfl rfl rfl (ps_fieldAddrR rfl rfl) ?_
 refine GoP.qT rfl rfl rfl rfl (ps_loadR rfl (idx_lt c29) rfl rfl) ?_
 refine GoP.qT rfl rfl rfl rfl (ps_load rfl At.p0 At.p0 Nat.zero_lt_one rfl rfl) ?_
 refine GoP.qT rfl rfl rfl rfl (ps_neq rfl rfl rfl) ?_
 refine GoP.qN rfl (ps_pickF rfl rfl rfl) ?_
 refine GoP.done ?_
 refine GoK.code ?_
 refine GoC.condD rfl (fun h30 => ?_) (fun h30 => ?_)
 replace H := ite_t h30 H
 refine GoC.skip ?_
 obtain rfl := Option.some.inj H
 exact GoK.meet ⟨rfl, rfl, rfl⟩ (EnvD.eq rfl (EnvD.eq rfl (EnvD.eq rfl (EnvD.eq rfl (EnvD.eq rfl (EnvD.eq rfl (EnvD.eq rfl (EnvD.nil)))))))) (TkD.cons _ _ _ _ _ Rem.p0 (HLe.st ⟨trivial, DLe.refl _⟩) (TkD.cons _ _ _ _ _ Rem.p0 (HLe.refl _) (TkD.cons _ _ _ _ _ Rem.p0 (HLe.refl _) (TkD.cons _ _ _ _ _ Rem.p0 (HLe.st ⟨⟨trivial, DLe.refl _⟩, DLe.refl _⟩) (TkD.cons _ _ _ _ _ Rem.p0 (HLe.st ⟨⟨⟨⟨trivial, DLe.refl _⟩, DLe.refl _⟩, DLe.refl _⟩, DLe.refl _⟩) (TkD.nil _))))))
 replace H := ite_f h30 H
 refine GoC.exit rfl ?_
 obtain rfl := Option.some.inj H
 obtain rfl := Option.some.inj HK25
 obtain rfl := Option.some.inj hF21
 exact GoK.meet ⟨_, rfl, rfl, rfl⟩ (EnvD.eq rfl (EnvD.eq rfl (EnvD.eq rfl (EnvD.eq rfl (EnvD.eq rfl (EnvD.eq rfl (EnvD.eq rfl (EnvD.nil)))))))) (TkD.cons _ _ _ _ _ Rem.p0 (HLe.st ⟨trivial, DLe.refl _⟩) (TkD.cons _ _ _ _ _ Rem.p0 (HLe.refl _) (TkD.cons _ _ _ _ _ Rem.p0 (HLe.refl _) (TkD.cons _ _ _ _ _ Rem.p0 (HLe.st ⟨⟨trivial, DLe.refl _⟩, DLe.refl _⟩) (TkD.cons _ _ _ _ _ Rem.p0 (HLe.st ⟨⟨⟨⟨trivial, DLe.refl _⟩, DLe.refl _⟩, DLe.refl _⟩, DLe.refl _⟩) (TkD.nil _))))))
 rintro v h ⟨rfl, rfl, rfl⟩
 have H := HK25; clear HK25
 refine GoC.block ?_
 refine GoC.region ?_
 refine GoO.pure (ps_move rfl rfl) ?_
 have c31 := ck_l H; replace H := ck_r H
 refine GoO.pure (ps_add rfl rfl rfl c31) ?_
 refine GoO.pure (ps_assign rfl rfl) ?_
 refine GoO.nil ?_
 refine GoK.blk ?_
 obtain rfl := Option.some.inj H
 exact GoK.againJ m24' (by omega) ⟨_, hF21, rfl, rfl⟩ (EnvD.eq rfl (EnvD.eq rfl (EnvD.eq rfl (EnvD.eq rfl (EnvD.eq rfl (EnvD.eq rfl (EnvD.eq rfl (EnvD.nil)))))))) (TkD.cons _ _ _ _ _ Rem.p0 (HLe.st ⟨trivial, DLe.refl _⟩) (TkD.cons _ _ _ _ _ Rem.p0 (HLe.refl _) (TkD.cons _ _ _ _ _ Rem.p0 (HLe.refl _) (TkD.cons _ _ _ _ _ Rem.p0 (HLe.st ⟨⟨trivial, DLe.refl _⟩, DLe.refl _⟩) (TkD.cons _ _ _ _ _ Rem.p0 (HLe.st ⟨⟨⟨⟨trivial, DLe.refl _⟩, DLe.refl _⟩, DLe.refl _⟩, DLe.refl _⟩) (TkD.nil _))))))
 rintro v h ⟨x23, rfl, rfl, rfl⟩
 have H := HK20; clear HK20
 refine GoK.code ?_
 refine GoC.seq ?_
 refine GoC.region ?_
 refine GoO.pure (ps_move rfl rfl) ?_
 refine GoO.pure (ps_move rfl rfl) ?_
 refine GoO.effB (ef_buildSlice (row ([x23] : List Int)) rfl (Parts.cons _ _ _ _ _ _ _ _ ⟨rfl, rfl⟩ (Part.one _ rfl rfl) rfl rfl (Parts.nil _)) rfl rfl rfl rfl) (fun β33 => ?_)
 have c35 := ck_l H; replace H := ck_r H
 refine GoO.effB (ef_append rfl rfl Rem.p2 (Src.own At.p0 (by first | omega | (simp only [subl_length, cpl_length, List.length_set, List.length_append, List.length_cons, List.length_nil, List.length_replicate, row_len]; omega) | (simp only [subl_length, cpl_length, List.length_set, List.length_append, List.length_cons, List.length_nil, List.length_replicate, row_len]; done))) (cat_row (α := Int) (by first | rfl | omega | (simp only [subl_length, cpl_length, List.length_set, List.length_append, List.length_cons, List.length_nil, List.length_replicate, row_len] <;> first | rfl | omega)) (by first | rfl | omega | (simp only [subl_length, cpl_length, List.length_set, List.length_append, List.length_cons, List.length_nil, List.length_replicate, row_len] <;> first | rfl | omega)) (fun _ _ _ _ => rfl)) (by first | omega | (simp only [subl_length, cpl_length, List.length_set, List.length_append, List.length_cons, List.length_nil, List.length_replicate, row_len]; omega) | (simp only [subl_length, cpl_length, List.length_set, List.length_append, List.length_cons, List.length_nil, List.length_replicate, row_len]; done)) (app_le c35 rfl) rfl rfl rfl) (fun β34 => ?_)
 refine GoO.pure (ps_assign rfl rfl) ?_
 refine GoO.nil ?_
 refine GoK.code ?_
 refine GoC.seq ?_
 refine GoC.region ?_
 refine GoO.pure (ps_fieldAddr rfl rfl) ?_
 refine GoO.pure (ps_load rfl At.p5 At.p5 Nat.zero_lt_one rfl rfl) ?_
 refine GoO.pure (ps_move rfl rfl) ?_
 have c36 := ck_l H; replace H := ck_r H
 refine GoO.pure (ps_indexAddrR rfl rfl c36 rfl) ?_
 refine GoO.pure (ps_fieldAddrR rfl rfl) ?_
 refine GoO.pure (ps_loadR rfl (idx_lt c36) rfl rfl) ?_
 refine GoO.eff1 (ef_store rfl rfl rfl At.p2 upd_st1 Nat.zero_lt_one rfl) ?_
 refine GoO.nil ?_
 refine GoK.code ?_
 refine GoC.seq ?_
 refine GoC.seq ?_
 refine GoC.region ?_
 refine GoO.pure (ps_move rfl rfl) ?_
 refine GoO.pure (ps_load rfl At.p2 At.p2 Nat.zero_lt_one rfl rfl) ?_
 refine GoO.eff1 (ef_lookup rfl rfl At.p3 rfl) ?_
 refine GoO.pure (ps_move rfl rfl) ?_
 refine GoO.pure (ps_extract rfl rfl rfl) ?_
 refine GoO.pure (ps_extract rfl rfl rfl) ?_
 refine GoO.pure (ps_assign rfl rfl) ?_
 refine GoO.pure (ps_assign rfl rfl) ?_
 refine GoO.nil ?_
 refine GoK.code ?_
 refine GoC.seq ?_
 refine GoC.region ?_
 refine GoO.pure (ps_move rfl rfl) ?_
 refine GoO.nil ?_
 refine GoK.code ?_
 refine GoC.cond rfl (fun h37 => ?_) (fun h37 => ?_)
 replace H := itb_t h37 H
 refine GoC.seq ?_
 refine GoC.region ?_
 refine GoO.pure (ps_move rfl rfl) ?_
 refine GoO.pure (ps_move rfl rfl) ?_
 refine GoO.pure (ps_move rfl rfl) ?_
 have c38 := ck_l H; replace H := ck_r H
 have c39 := ck_l H; replace H := ck_r H
 refine GoO.pure (ps_slice rfl (Bd.int _ _ _ _ rfl c38) (Bd.no _) c39 (Nat.le_refl _) rfl) ?_
 refine GoO.le (Le.shift At.p0 (by have := c39; first | omega | (simp only [subl_length, cpl_length, List.length_set, List.length_append, List.length_cons, List.length_nil, List.length_replicate, row_len]; omega) | (simp only [subl_length, cpl_length, List.length_set, List.length_append, List.length_cons, List.length_nil, List.length_replicate, row_len, eldI]; omega))) ?_
 refine GoO.le (Le.reH At.p0 (HLe.part (xs := (l7 ++ ([x23] : List Int))) (r := (((mget mm8 ((n.as.getD x23.toNat El.d).t)).getD 0).toNat) + 0) (len := (l7.length + 1) - ((mget mm8 ((n.as.getD x23.toNat El.d).t)).getD 0).toNat) (by have := c39; first | omega | (simp only [subl_length, cpl_length, List.length_set, List.length_append, List.length_cons, List.length_nil, List.length_replicate, row_len]; omega)))) ?_
 generalize (⟨β34.b, β34.o + ((((mget mm8 ((n.as.getD x23.toNat El.d).t)).getD 0).toNat) + 0) * 1, β34.s - ((((mget mm8 ((n.as.getD x23.toNat El.d).t)).getD 0).toNat) + 0)⟩ : BK) = β40
 have hb := bind_l H; clear H
 obtain ⟨r41, e43, H⟩ := hb
 refine GoO.effC (ef_call rfl (Take.nil _) (Take.cons _ _ _ _ _ Rem.p0 (Take.nil _)) (flow_amount_spec left (subl (l7 ++ ([x23] : List Int)) (((mget mm8 ((n.as.getD x23.toNat El.d).t)).getD 0).toNat) ((l7.length + 1) - ((mget mm8 ((n.as.getD x23.toNat El.d).t)).getD 0).toNat)) e43) (LendL.cons (Lend.refl _ _) (LendL.cons (Lend.all' At.p0 (by first | rfl | omega | (simp only [subl_length, cpl_length, List.length_set, List.length_append, List.length_cons, List.length_nil, List.length_replicate, row_len] <;> first | rfl | omega)) rfl) (LendL.nil))) rfl (flow_amount_I (r41))) (fun rr HH hp => ?_)
 obtain ⟨β42, rfl, rfl⟩ := hp
 refine GoO.eff1 (ef_storeAg rfl rfl At.p5 upd_whole Nat.zero_lt_one rfl) ?_
 refine GoO.pure (ps_assign rfl rfl) ?_
 refine GoO.nil ?_
 refine GoK.code ?_
 obtain rfl := Option.some.inj H
 obtain rfl := Option.some.inj hF10
 obtain rfl := Option.some.inj HK9
 exact GoC.retL (ds := [.ag 2 (nth [.v (.int .i64 r41.amount), .own β42 1 0 r41.arcs.length]), .v (.bool true)]) Try.results60 (ResL.cons (ResD.le (ResD.cellAg rfl At.p5 Nat.zero_lt_one rfl) (by exact DLe.ag ⟨⟨trivial, DLe.refl _⟩, DLe.refl _⟩)) (ResL.cons (ResD.tmp rfl) (ResL.nil))) (Take.cons _ _ _ _ _ Rem.p0 (Take.nil _)) ⟨β42, rfl, rfl⟩
 replace H := itb_f h37 H
 refine GoC.skip ?_
 refine GoK.code ?_
 refine GoC.region ?_
 refine GoO.pure (ps_move rfl rfl) ?_
 refine GoO.pure (ps_load rfl At.p2 At.p2 Nat.zero_lt_one rfl rfl) ?_
 refine GoO.pure (ps_move rfl rfl) ?_
 refine GoO.pure (ps_len rfl (by constructor) rfl) ?_
 refine GoO.lenLe (n := (l7.length + 1)) (x := .tmp 65) rfl (by constructor) own_lenLe (fun ml44 => ?_)
 refine GoO.eff1 (ef_mapSet rfl rfl rfl At.p3) ?_
 refine GoO.nil ?_
 refine GoK.blk ?_
 obtain rfl := Option.some.inj H
 exact GoK.againJ m15' (by omega) ⟨_, _, _, β34, hF10, rfl, rfl⟩ (EnvD.eq rfl (EnvD.cons rfl (DLe.len (by first | rfl | omega | (simp only [row_len, gridC_len, rowO_len, List.length_append, List.length_cons, List.length_nil] <;> first | rfl | omega))) (EnvD.eq rfl (EnvD.eq rfl (EnvD.eq rfl (EnvD.eq rfl (EnvD.nil))))))) (TkD.cons _ _ _ _ _ Rem.p2 (HLe.st ⟨trivial, DLe.refl _⟩) (TkD.cons _ _ _ _ _ Rem.p0 (HLe.refl _) (TkD.cons _ _ _ _ _ Rem.p1 (HLe.refl _) (TkD.cons _ _ _ _ _ Rem.p1 (HLe.st ⟨⟨trivial, DLe.refl _⟩, DLe.refl _⟩) (TkD.cons _ _ _ _ _ Rem.p1 (HLe.st ⟨⟨⟨⟨trivial, DLe.refl _⟩, DLe.refl _⟩, DLe.refl _⟩, DLe.refl _⟩) (TkD.nil _))))))
 replace H := ite_f h16 H
 refine GoC.exit rfl ?_
 obtain rfl := Option.some.inj H
 obtain rfl := Option.some.inj hF10
 exact GoK.meet ⟨_, _, _, β6, rfl, rfl, rfl⟩ (EnvD.cons rfl (DLe.len (by first | rfl | omega | (simp only [row_len, gridC_len, rowO_len] <;> first | rfl | omega))) (EnvD.eq rfl (EnvD.eq rfl (EnvD.nil)))) (TkD.cons _ _ _ _ _ Rem.p0 (HLe.st ⟨trivial, DLe.refl _⟩) (TkD.cons _ _ _ _ _ Rem.p0 (HLe.refl _) (TkD.cons _ _ _ _ _ Rem.p0 (HLe.refl _) (TkD.cons _ _ _ _ _ Rem.p0 (HLe.st ⟨⟨trivial, DLe.refl _⟩, DLe.refl _⟩) (TkD.cons _ _ _ _ _ Rem.p0 (HLe.st ⟨⟨⟨⟨trivial, DLe.refl _⟩, DLe.refl _⟩, DLe.refl _⟩, DLe.refl _⟩) (TkD.nil _))))))
 rintro v h ⟨x12, l13, mm14, β6, rfl, rfl, rfl⟩
 have H := HK9; clear HK9
 refine GoK.code ?_
 refine GoC.seq ?_
 refine GoC.region ?_
 refine GoO.pure (ps_move rfl rfl) ?_
 refine GoO.pure (ps_move rfl rfl) ?_
 have hb := bind_l H; clear H
 obtain ⟨r46, e48, H⟩ := hb
 refine GoO.effC (ef_call rfl (Take.nil _) (Take.cons _ _ _ _ _ Rem.p1 (Take.nil _)) (flow_amount_spec left l13 e48) (LendL.cons (Lend.refl _ _) (LendL.cons (Lend.all' At.p0 (by first | rfl | omega | (simp only [subl_length, cpl_length, List.length_set, List.length_append, List.length_cons, List.length_nil, List.length_replicate, row_len] <;> first | rfl | omega)) rfl) (LendL.nil))) rfl (flow_amount_I (r46))) (fun rr HH hp => ?_)
 obtain ⟨β47, rfl, rfl⟩ := hp
 refine GoO.eff1 (ef_storeAg rfl rfl At.p4 upd_whole Nat.zero_lt_one rfl) ?_
 refine GoO.pure (ps_assign rfl rfl) ?_
 refine GoO.nil ?_
 refine GoK.code ?_
 obtain rfl := Option.some.inj H
 exact GoC.retL (ds := [.ag 2 (nth [.v (.int .i64 r46.amount), .own β47 1 0 r46.arcs.length]), .v (.bool false)]) Try.results60 (ResL.cons (ResD.le (ResD.cellAg rfl At.p4 Nat.zero_lt_one rfl) (by exact DLe.ag ⟨⟨trivial, DLe.refl _⟩, DLe.refl _⟩)) (ResL.cons (ResD.tmp rfl) (ResL.nil))) (Take.cons _ _ _ _ _ Rem.p0 (Take.nil _)) ⟨β47, rfl, rfl⟩

def flow_take_B1 (p : Piece) : Nat → (List Int) → Option ((List Int)) := fun k8 l3 =>
 ck (0 ≤ (p.arcs.getD k8 (0 : Int)) ∧ (p.arcs.getD k8 (0 : Int)) < ((l3.length : Nat) : Int)) <|
 ck (InI ((l3.getD ((p.arcs.getD k8 (0 : Int)).toNat) (0 : Int)) - p.amount)) <|
 some (l3.set ((p.arcs.getD k8 (0 : Int)).toNat) ((l3.getD ((p.arcs.getD k8 (0 : Int)).toNat) (0 : Int)) - p.amount))
def flow_take_F (left : (List Int)) (p : Piece) : Option ((List Int)) :=
 (forN (flow_take_B1 p) p.arcs.length 0 left).bind fun l7 =>
 some l7
def flow_take_P (out : (List Int)) (βleft : BK) (d : D) (H : List HL) : Prop := d = .tp 0 (nth []) ∧ H = [.one βleft 3 1 (row out)]
theorem flow_take_I (out : (List Int)) (βleft : BK) : IndepP (flow_take_P out βleft) := IndepP.of (by rintro _ _ ⟨rfl, rfl⟩; exact ⟨inferInstance, inferInstance⟩)
set_option maxRecDepth 100000 in
set_option maxHeartbeats 4000000 in
theorem flow_take_spec (left : (List Int)) (p : Piece) (βleft : BK) {out : (List Int)} (H : flow_take_F left p = some out) : Does Try.prog 61 [.own βleft 1 0 left.length, .ag 2 (nth [.v (.int .i64 p.amount), slD p.arcs])] [.one βleft 3 1 (row left)] (flow_take_P out βleft) := by
 unfold flow_take_F at H
 refine Does.intro Try.func61 rfl Try.ntmps61 rfl fun w0 I0 => ?_
 refine GoC.seq ?_
 refine GoC.region ?_
 refine GoO.effB (ef_boxAg rfl rfl) (fun β1 => ?_)
 refine GoO.nil ?_
 refine GoK.code ?_
 refine GoC.seq ?_
 refine GoC.region ?_
 refine GoO.pure (ps_fieldAddr rfl rfl) ?_
 refine GoO.pure (ps_load rfl At.p0 At.p0 Nat.zero_lt_one rfl rfl) ?_
 refine GoO.pure (ps_len rfl (by constructor) rfl) ?_
 refine GoO.lenLe (n := p.arcs.length) (x := .tmp 7) rfl (by constructor) sl_lenLe (fun ml2 => ?_)
 refine GoO.pure (ps_move rfl rfl) ?_
 refine GoO.nil ?_
 refine GoK.code ?_
 have hb := bind_l H; clear H
 obtain ⟨l7, hl12, HK4⟩ := hb
 refine GoC.blockJ [] [.one β1 50 2 (st1 (nth [.v (.int .i64 p.amount), slD p.arcs]))] (fun v h => v = [] ∧ h = [.one βleft 3 1 (row l7)]) ?_ ?_
 refine GoC.loopJ [(3, _), (7, _), (8, _)] [.one β1 50 2 (st1 (nth [.v (.int .i64 p.amount), slD p.arcs]))] (fun mQ v h => ∃ (k8 : Nat) (l3 : (List Int)), (k8 + mQ = p.arcs.length ∧ forN (flow_take_B1 p) mQ k8 l3 = some l7) ∧ v = [(9, .v (.int .i64 ((k8 : Nat) : Int))), (0, .own βleft 1 0 l3.length)] ∧ h = [.one βleft 3 1 (row l3)]) p.arcs.length ⟨_, _, ⟨by omega, hl12⟩, rfl, rfl⟩ (EnvD.eq rfl (EnvD.cons rfl (DLe.len (by first | rfl | omega | (simp only [row_len, gridC_len, rowO_len] <;> first | rfl | omega))) (EnvD.eq rfl (EnvD.eq rfl (EnvD.eq rfl (EnvD.nil)))))) (TkD.cons _ _ _ _ _ Rem.p1 (HLe.refl _) (TkD.cons _ _ _ _ _ Rem.p0 (HLe.st ⟨⟨trivial, DLe.refl _⟩, DLe.refl _⟩) (TkD.nil _))) ?_
 rintro m9 v h ⟨k8, l3, ⟨hkk8, hF5⟩, rfl, rfl⟩
 refine GoC.seq ?_
 refine GoC.region ?_
 refine GoO.pure (ps_lss rfl rfl rfl) ?_
 refine GoO.nil ?_
 refine GoK.code ?_
 refine GoC.seq ?_
 refine GoC.condD rfl (fun (hk8 : (k8 : Int) < ((p.arcs.length : Nat) : Int)) => ?_) (fun (hk8 : ¬ (k8 : Int) < ((p.arcs.length : Nat) : Int)) => ?_)
 obtain ⟨m9', rfl⟩ : ∃ x, m9 = x + 1 := ⟨m9 - 1, by omega⟩
 have hb := bind_l hF5; clear hF5
 obtain ⟨qrm9, H, hF5⟩ := hb
 have hnk8 : k8 < p.arcs.length := by omega
 have hIk8 : InI ((k8 : Int) + 1) := inI_len hk8 ml2
 refine GoC.skip ?_
 refine GoK.code ?_
 refine GoC.seq ?_
 refine GoC.block ?_
 refine GoC.seq ?_
 refine GoC.region ?_
 refine GoO.pure (ps_indexAddrRN rfl rfl hnk8 rfl) ?_
 refine GoO.pure (ps_loadR rfl hnk8 rfl rfl) ?_
 refine GoO.pure (ps_assign rfl rfl) ?_
 refine GoO.nil ?_
 refine GoK.code ?_
 refine GoC.drawP (.q 0 (.q 1 (.q 2 (.q 4 (.q 5 (.one 3 (.q 6 (.q 7 (.one 8 (.done)))))))))) [(3, _, _, _)] follows (by kernel_rfl) (Take.cons _ _ _ _ _ Rem.p1 (Take.nil _)) ?_
 refine GoP.qN rfl (ps_move rfl rfl) ?_
 refine GoP.qN rfl (ps_move rfl rfl) ?_
 have c10 := ck_l H; replace H := ck_r H
 refine GoP.qN rfl (ps_indexAddr0 rfl rfl c10 rfl) ?_
 refine GoP.qN rfl (ps_fieldAddr rfl rfl) ?_
 refine GoP.qN rfl (ps_load rfl At.p1 At.p0 Nat.zero_lt_one rfl rfl) ?_
 refine GoP.oneN rfl (ps_load rfl At.p0 At.p0 (idx_lt c10) rfl rfl) (Take.cons _ _ _ _ _ Rem.p1 (Take.nil _)) ?_
 have c11 := ck_l H; replace H := ck_r H
 refine GoP.qN rfl (ps_sub rfl rfl rfl c11) ?_
 refine GoP.qN rfl (ps_indexAddr0 rfl rfl c10 rfl) ?_
 refine GoP.one1 rfl trivial (ef_store rfl rfl rfl At.p0 (upd_row1 (v := ((l3.getD ((p.arcs.getD k8 (0 : Int)).toNat) (0 : Int)) - p.amount)) rfl) (idx_lt c10) rfl) (Take.cons _ _ _ _ _ Rem.p0 (Take.cons _ _ _ _ _ Rem.p0 (Take.nil _))) ?_
 refine GoP.done ?_
 refine GoK.blk ?_
 refine GoK.code ?_
 refine GoC.region ?_
 refine GoO.pure (ps_add rfl rfl rfl hIk8) ?_
 refine GoO.pure (ps_move rfl rfl) ?_
 refine GoO.nil ?_
 obtain rfl := Option.some.inj H
 exact GoK.againJ m9' (by omega) ⟨_, _, ⟨by omega, hF5⟩, rfl, rfl⟩ (EnvD.eq rfl (EnvD.cons rfl (DLe.len (by first | rfl | omega | (simp only [row_len, gridC_len, rowO_len, List.length_set] <;> first | rfl | omega))) (EnvD.eq rfl (EnvD.eq rfl (EnvD.eq rfl (EnvD.nil)))))) (TkD.cons _ _ _ _ _ Rem.p0 (HLe.refl _) (TkD.cons _ _ _ _ _ Rem.p0 (HLe.st ⟨⟨trivial, DLe.refl _⟩, DLe.refl _⟩) (TkD.nil _)))
 obtain rfl : m9 = 0 := by omega
 refine GoC.exit rfl ?_
 cases hF5
 exact GoK.meet ⟨rfl, rfl⟩ (EnvD.nil) (TkD.cons _ _ _ _ _ Rem.p0 (HLe.refl _) (TkD.cons _ _ _ _ _ Rem.p0 (HLe.st ⟨⟨trivial, DLe.refl _⟩, DLe.refl _⟩) (TkD.nil _)))
 rintro v h ⟨rfl, rfl⟩
 have H := HK4; clear HK4
 obtain rfl := Option.some.inj H
 exact GoK.retL (ds := []) Try.results61 (ResL.nil) (Take.cons _ _ _ _ _ Rem.p0 (Take.nil _)) ⟨rfl, rfl⟩

def flow_Split_B1 (n : Net) : (Int × (List Int) × (List Piece) × (List Piece)) → Option (Ct (Int × (List Int) × (List Piece) × (List Piece)) ((List Piece) × (List Piece) × Int)) := fun (x18, l19, g21, g24) =>
 if 0 < x18 then
  (flow_piece_F n l19 n.s).bind fun (r35, r37) =>
  if r37 = true then
   ck (g24.length + 1 ≤ 4398046511104) <|
   (flow_take_F l19 r35).bind fun l44 =>
   ck (l44.length = l19.length) <|
   some (.go (x18, l44, g21, (g24 ++ [r35])))
  else
   ck (g21.length + 1 ≤ 4398046511104) <|
   ck (InI (x18 - (min r35.amount x18))) <|
   (flow_take_F l19 (⟨(min r35.amount x18), r35.arcs⟩ : Piece)).bind fun l51 =>
   ck (l51.length = l19.length) <|
   some (.go ((x18 - (min r35.amount x18)), l51, (g21 ++ [(⟨(min r35.amount x18), r35.arcs⟩ : Piece)]), g24))
 else
  some (.brk (x18, l19, g21, g24))
def flow_Split_B3 (n : Net) (f : (List Int)) (k65 : Nat) : ((List Int) × (List Piece)) → Option (Ct ((List Int) × (List Piece)) ((List Int) × (List Piece))) := fun (l67, g69) =>
 ck (k65 < l67.length) <|
 if 0 < (l67.getD k65 (0 : Int)) then
  ck (k65 < n.as.length) <|
  (flow_piece_F (⟨n.n, (-1), (-1), n.as⟩ : Net) l67 ((n.as.getD k65 El.d).f)).bind fun (r80, r82) =>
  (flow_take_F l67 r80).bind fun l87 =>
  ck (l87.length = l67.length) <|
  ck (g69.length + 1 ≤ 4398046511104) <|
  some (.go (l87, (g69 ++ [r80])))
 else
  some (.brk (l67, g69))
def flow_Split_B2 (n : Net) (f : (List Int)) : Nat → ((List Int) × (List Piece)) → Option ((List Int) × (List Piece)) := fun k65 (l56, g58) =>
 (loopC (flow_Split_B3 n f k65) 1000000 (l56, g58)).bind fun q => match q with
 | .go (l74, g75) =>
  some (l74, g75)
 | .ret x => some x
def flow_Split_F (n : Net) (f : (List Int)) : Option ((List Piece) × (List Piece) × Int) :=
 (flow_Value_F n f).bind fun (r4, r5) =>
 if r5 ≠ 0 then
  some (([] : List Piece), ([] : List Piece), r5)
 else
  if r4 < 0 then
   some (([] : List Piece), ([] : List Piece), 9)
  else
   (slices_Clone_int_F f).bind fun r13 =>
   (loopC (flow_Split_B1 n) 1000000 (r4, r13, ([] : List Piece), ([] : List Piece))).bind fun q => match q with
   | .go (x29, l30, g31, g32) =>
    (forN (flow_Split_B2 n f) l30.length 0 (l30, g32)).bind fun (l63, g64) =>
    some (g31, g64, 0)
   | .ret x => some x
def flow_Split_P (out : (List Piece) × (List Piece) × Int) (d : D) (H : List HL) : Prop := ∃ β1 β2 : BK, ∃ Γr0 Γr1 : Nat → BK, d = .tp 3 (nth [.own β1 2 0 out.1.length, .own β2 2 0 out.2.1.length, .v (.int .i64 out.2.2)]) ∧ H = [.one β1 50 2 (gridS (α := Piece) Γr0 out.1), gridI (α := Piece) 3 Γr0 out.1, .one β2 50 2 (gridS (α := Piece) Γr1 out.2.1), gridI (α := Piece) 3 Γr1 out.2.1]
theorem flow_Split_I (out : (List Piece) × (List Piece) × Int) : IndepP (flow_Split_P out) := IndepP.of (by rintro _ _ ⟨β1, β2, Γr0, Γr1, rfl, rfl⟩; exact ⟨inferInstance, inferInstance⟩)
set_option maxRecDepth 100000 in
set_option maxHeartbeats 4000000 in
theorem flow_Split_spec (n : Net) (f : (List Int)) {out : (List Piece) × (List Piece) × Int} (H : flow_Split_F n f = some out) : Does Try.prog 30 [.ag 4 (nth [.v (.int .i64 n.n), .v (.int .i64 n.s), .v (.int .i64 n.t), slD n.as]), slD f] [] (flow_Split_P out) := by
 unfold flow_Split_F at H
 refine Does.intro Try.func30 rfl Try.ntmps30 rfl fun w0 I0 => ?_
 refine GoC.seq ?_
 refine GoC.region ?_
 refine GoO.effB (ef_boxAg rfl rfl) (fun β1 => ?_)
 refine GoO.pure (ps_assign rfl rfl) ?_
 obtain ⟨β2, hβ2⟩ : ∃ β : BK, β = ⟨0, 0, 0⟩ := ⟨_, rfl⟩
 refine GoO.le (Le.gsI 3 Piece) ?_
 refine GoO.le (le_nil 4 50 2 (gridS (α := Piece) (fun _ => ⟨0, 0, 0⟩) []) rfl rfl) ?_
 rw [← hβ2]
 refine GoO.pure (ps_assign rfl rfl) ?_
 obtain ⟨β3, hβ3⟩ : ∃ β : BK, β = ⟨0, 0, 0⟩ := ⟨_, rfl⟩
 refine GoO.le (Le.gsI 3 Piece) ?_
 refine GoO.le (le_nil 5 50 2 (gridS (α := Piece) (fun _ => ⟨0, 0, 0⟩) []) rfl rfl) ?_
 rw [← hβ3]
 refine GoO.pure (ps_assign rfl rfl) ?_
 refine GoO.nil ?_
 refine GoK.code ?_
 refine GoC.seq ?_
 refine GoC.region ?_
 refine GoO.pure (ps_loadAg rfl At.p4 At.p4 Nat.zero_lt_one rfl rfl) ?_
 refine GoO.pure (ps_move rfl rfl) ?_
 have hb := bind_l H; clear H
 obtain ⟨⟨r4, r5⟩, e6, H⟩ := hb
 refine GoO.effC (ef_call rfl (Take.nil _) (Take.nil _) (flow_Value_spec n f e6) (LendL.cons (Lend.agA ⟨⟨⟨⟨trivial, Lend.refl _ _⟩, Lend.refl _ _⟩, Lend.refl _ _⟩, Lend.refl _ _⟩) (LendL.cons (Lend.refl _ _) (LendL.nil))) rfl (flow_Value_I (r4, r5))) (fun rr HH hp => ?_)
 obtain ⟨rfl, rfl⟩ := hp
 refine GoO.pure (ps_move rfl rfl) ?_
 refine GoO.pure (ps_extract rfl rfl rfl) ?_
 refine GoO.pure (ps_extract rfl rfl rfl) ?_
 refine GoO.pure (ps_assign rfl rfl) ?_
 refine GoO.pure (ps_assign rfl rfl) ?_
 refine GoO.nil ?_
 refine GoK.code ?_
 refine GoC.seq ?_
 refine GoC.seq ?_
 refine GoC.region ?_
 refine GoO.pure (ps_move rfl rfl) ?_
 refine GoO.pure (ps_neq rfl rfl rfl) ?_
 refine GoO.nil ?_
 refine GoK.code ?_
 refine GoC.condD rfl (fun h7 => ?_) (fun h7 => ?_)
 replace H := ite_t h7 H
 refine GoC.seq ?_
 refine GoC.region ?_
 refine GoO.pure (ps_move rfl rfl) ?_
 refine GoO.pure (ps_assign rfl rfl) ?_
 obtain ⟨β8, hβ8⟩ : ∃ β : BK, β = ⟨0, 0, 0⟩ := ⟨_, rfl⟩
 refine GoO.le (Le.gsI 3 Piece) ?_
 refine GoO.le (le_nil 4 50 2 (gridS (α := Piece) (fun _ => ⟨0, 0, 0⟩) []) rfl rfl) ?_
 rw [← hβ8]
 refine GoO.pure (ps_assign rfl rfl) ?_
 obtain ⟨β9, hβ9⟩ : ∃ β : BK, β = ⟨0, 0, 0⟩ := ⟨_, rfl⟩
 refine GoO.le (Le.gsI 3 Piece) ?_
 refine GoO.le (le_nil 5 50 2 (gridS (α := Piece) (fun _ => ⟨0, 0, 0⟩) []) rfl rfl) ?_
 rw [← hβ9]
 refine GoO.pure (ps_assign rfl rfl) ?_
 refine GoO.nil ?_
 refine GoK.code ?_
 obtain rfl := Option.some.inj H
 exact GoC.retL (ds := [.own β8 2 0 ([] : List Piece).length, .own β9 2 0 ([] : List Piece).length, .v (.int .i64 r5)]) Try.results30 (ResL.cons (ResD.le (ResD.tmp rfl) (by exact DLe.len (by first | rfl | omega | (simp only [row_len, gridC_len, rowO_len, gridS_len, List.length_cons, List.length_nil, List.length_nil] <;> first | rfl | omega)))) (ResL.cons (ResD.le (ResD.tmp rfl) (by exact DLe.len (by first | rfl | omega | (simp only [row_len, gridC_len, rowO_len, gridS_len, List.length_cons, List.length_nil, List.length_nil] <;> first | rfl | omega)))) (ResL.cons (ResD.tmp rfl) (ResL.nil)))) (Take.cons _ _ _ _ _ Rem.p2 (Take.cons _ _ _ _ _ Rem.p2 (Take.cons _ _ _ _ _ Rem.p0 (Take.cons _ _ _ _ _ Rem.p0 (Take.nil _))))) ⟨β8, β9, (fun _ => β8), (fun _ => β9), rfl, rfl⟩
 replace H := ite_f h7 H
 refine GoC.skip ?_
 refine GoK.code ?_
 refine GoC.seq ?_
 refine GoC.seq ?_
 refine GoC.region ?_
 refine GoO.pure (ps_move rfl rfl) ?_
 refine GoO.pure (ps_lss rfl rfl rfl) ?_
 refine GoO.nil ?_
 refine GoK.code ?_
 refine GoC.condD rfl (fun h10 => ?_) (fun h10 => ?_)
 replace H := ite_t h10 H
 refine GoC.seq ?_
 refine GoC.region ?_
 refine GoO.pure (ps_assign rfl rfl) ?_
 obtain ⟨β11, hβ11⟩ : ∃ β : BK, β = ⟨0, 0, 0⟩ := ⟨_, rfl⟩
 refine GoO.le (Le.gsI 3 Piece) ?_
 refine GoO.le (le_nil 4 50 2 (gridS (α := Piece) (fun _ => ⟨0, 0, 0⟩) []) rfl rfl) ?_
 rw [← hβ11]
 refine GoO.pure (ps_assign rfl rfl) ?_
 obtain ⟨β12, hβ12⟩ : ∃ β : BK, β = ⟨0, 0, 0⟩ := ⟨_, rfl⟩
 refine GoO.le (Le.gsI 3 Piece) ?_
 refine GoO.le (le_nil 5 50 2 (gridS (α := Piece) (fun _ => ⟨0, 0, 0⟩) []) rfl rfl) ?_
 rw [← hβ12]
 refine GoO.pure (ps_assign rfl rfl) ?_
 refine GoO.nil ?_
 refine GoK.code ?_
 obtain rfl := Option.some.inj H
 exact GoC.retL (ds := [.own β11 2 0 ([] : List Piece).length, .own β12 2 0 ([] : List Piece).length, .v (.int .i64 9)]) Try.results30 (ResL.cons (ResD.le (ResD.tmp rfl) (by exact DLe.len (by first | rfl | omega | (simp only [row_len, gridC_len, rowO_len, gridS_len, List.length_cons, List.length_nil, List.length_nil] <;> first | rfl | omega)))) (ResL.cons (ResD.le (ResD.tmp rfl) (by exact DLe.len (by first | rfl | omega | (simp only [row_len, gridC_len, rowO_len, gridS_len, List.length_cons, List.length_nil, List.length_nil] <;> first | rfl | omega)))) (ResL.cons (ResD.tmp rfl) (ResL.nil)))) (Take.cons _ _ _ _ _ Rem.p2 (Take.cons _ _ _ _ _ Rem.p2 (Take.cons _ _ _ _ _ Rem.p0 (Take.cons _ _ _ _ _ Rem.p0 (Take.nil _))))) ⟨β11, β12, (fun _ => β11), (fun _ => β12), rfl, rfl⟩
 replace H := ite_f h10 H
 refine GoC.skip ?_
 refine GoK.code ?_
 refine GoC.seq ?_
 refine GoC.region ?_
 refine GoO.pure (ps_move rfl rfl) ?_
 have hb := bind_l H; clear H
 obtain ⟨r13, e15, H⟩ := hb
 refine GoO.effC (ef_call rfl (Take.nil _) (Take.nil _) (slices_Clone_int_spec f e15) (LendL.cons (Lend.refl _ _) (LendL.nil)) rfl (slices_Clone_int_I (r13))) (fun rr HH hp => ?_)
 obtain ⟨β14, rfl, rfl⟩ := hp
 refine GoO.pure (ps_assign rfl rfl) ?_
 refine GoO.nil ?_
 refine GoK.code ?_
 refine GoC.seq ?_
 refine GoC.region ?_
 refine GoO.pure (ps_assign rfl rfl) ?_
 obtain ⟨β16, hβ16⟩ : ∃ β : BK, β = ⟨0, 0, 0⟩ := ⟨_, rfl⟩
 refine GoO.le (Le.gsI 3 Piece) ?_
 refine GoO.le (le_nil 10 50 2 (gridS (α := Piece) (fun _ => ⟨0, 0, 0⟩) []) rfl rfl) ?_
 rw [← hβ16]
 refine GoO.pure (ps_assign rfl rfl) ?_
 obtain ⟨β17, hβ17⟩ : ∃ β : BK, β = ⟨0, 0, 0⟩ := ⟨_, rfl⟩
 refine GoO.le (Le.gsI 3 Piece) ?_
 refine GoO.le (le_nil 11 50 2 (gridS (α := Piece) (fun _ => ⟨0, 0, 0⟩) []) rfl rfl) ?_
 rw [← hβ17]
 refine GoO.nil ?_
 refine GoK.code ?_
 refine GoC.seq ?_
 have hb := bind_l H; clear H
 obtain ⟨q28, hl54, HK26⟩ := hb
 refine GoC.blockJ [(2, .ptr β1 4 0 0)] [.one β3 50 2 (gridS (α := Piece) (fun _ => β3) ([] : List Piece)), gridI (α := Piece) 3 (fun _ => β3) ([] : List Piece), .one β2 50 2 (gridS (α := Piece) (fun _ => β2) ([] : List Piece)), gridI (α := Piece) 3 (fun _ => β2) ([] : List Piece), .one β1 62 4 (st1 (nth [.v (.int .i64 n.n), .v (.int .i64 n.s), .v (.int .i64 n.t), slD n.as]))] (fun v h => ∃ (x29 : Int) (l30 : (List Int)) (g31 : (List Piece)) (g32 : (List Piece)) (β20 : BK) (Γ22 : Nat → BK) (β23 : BK) (Γ25 : Nat → BK), q28 = .go (x29, l30, g31, g32) ∧ v = [(9, .own β14 1 0 l30.length), (10, .own β20 2 0 g31.length), (11, .own β23 2 0 g32.length)] ∧ h = [.one β14 3 1 (row l30), .one β20 50 2 (gridS (α := Piece) Γ22 g31), gridI (α := Piece) 3 Γ22 g31, .one β23 50 2 (gridS (α := Piece) Γ25 g32), gridI (α := Piece) 3 Γ25 g32]) ?_ ?_
 refine GoC.loopJ [(2, _)] [.one β3 50 2 (gridS (α := Piece) (fun _ => β3) ([] : List Piece)), gridI (α := Piece) 3 (fun _ => β3) ([] : List Piece), .one β2 50 2 (gridS (α := Piece) (fun _ => β2) ([] : List Piece)), gridI (α := Piece) 3 (fun _ => β2) ([] : List Piece), .one β1 62 4 (st1 (nth [.v (.int .i64 n.n), .v (.int .i64 n.s), .v (.int .i64 n.t), slD n.as]))] (fun mQ v h => ∃ (x18 : Int) (l19 : (List Int)) (g21 : (List Piece)) (g24 : (List Piece)) (β20 : BK) (Γ22 : Nat → BK) (β23 : BK) (Γ25 : Nat → BK), loopC (flow_Split_B1 n) mQ (x18, l19, g21, g24) = some q28 ∧ v = [(7, .v (.int .i64 x18)), (9, .own β14 1 0 l19.length), (10, .own β20 2 0 g21.length), (11, .own β23 2 0 g24.length)] ∧ h = [.one β14 3 1 (row l19), .one β20 50 2 (gridS (α := Piece) Γ22 g21), gridI (α := Piece) 3 Γ22 g21, .one β23 50 2 (gridS (α := Piece) Γ25 g24), gridI (α := Piece) 3 Γ25 g24]) 1000000 ⟨_, _, _, _, β16, (fun _ => β16), β17, (fun _ => β17), hl54, rfl, rfl⟩ (EnvD.eq rfl (EnvD.cons rfl (DLe.len (by first | rfl | omega | (simp only [row_len, gridC_len, rowO_len, gridS_len] <;> first | rfl | omega))) (EnvD.cons rfl (DLe.len (by first | rfl | omega | (simp only [row_len, gridC_len, rowO_len, gridS_len, List.length_cons, List.length_nil, List.length_nil] <;> first | rfl | omega))) (EnvD.cons rfl (DLe.len (by first | rfl | omega | (simp only [row_len, gridC_len, rowO_len, gridS_len, List.length_cons, List.length_nil, List.length_nil] <;> first | rfl | omega))) (EnvD.eq rfl (EnvD.nil)))))) (TkD.cons _ _ _ _ _ Rem.p4 (HLe.refl _) (TkD.cons _ _ _ _ _ Rem.p2 (HLe.refl _) (TkD.cons _ _ _ _ _ Rem.p2 (HLe.refl _) (TkD.cons _ _ _ _ _ Rem.p0 (HLe.refl _) (TkD.cons _ _ _ _ _ Rem.p0 (HLe.refl _) (TkD.cons _ _ _ _ _ Rem.p0 (HLe.refl _) (TkD.cons _ _ _ _ _ Rem.p0 (HLe.refl _) (TkD.cons _ _ _ _ _ Rem.p0 (HLe.refl _) (TkD.cons _ _ _ _ _ Rem.p0 (HLe.refl _) (TkD.cons _ _ _ _ _ Rem.p0 (HLe.st ⟨⟨⟨⟨trivial, DLe.refl _⟩, DLe.refl _⟩, DLe.refl _⟩, DLe.refl _⟩) (TkD.nil _))))))))))) ?_
 rintro m33 v h ⟨x18, l19, g21, g24, β20, Γ22, β23, Γ25, hF27, rfl, rfl⟩
 obtain ⟨m33', rfl⟩ | rfl : (∃ x, m33 = x + 1) ∨ m33 = 0 := by cases m33 <;> simp
 case inr => cases hF27
 have hb := bind_l hF27; clear hF27
 obtain ⟨qrm33, H, hF27⟩ := hb
 refine GoC.seq ?_
 refine GoC.seq ?_
 refine GoC.region ?_
 refine GoO.pure (ps_move rfl rfl) ?_
 refine GoO.pure (ps_gtr rfl rfl rfl) ?_
 refine GoO.nil ?_
 refine GoK.code ?_
 refine GoC.condD rfl (fun h34 => ?_) (fun h34 => ?_)
 replace H := ite_t h34 H
 refine GoC.skip ?_
 refine GoK.code ?_
 refine GoC.block ?_
 refine GoC.seq ?_
 refine GoC.region ?_
 refine GoO.pure (ps_loadAg rfl At.p9 At.p9 Nat.zero_lt_one rfl rfl) ?_
 refine GoO.pure (ps_move rfl rfl) ?_
 refine GoO.pure (ps_fieldAddr rfl rfl) ?_
 refine GoO.pure (ps_load rfl At.p9 At.p9 Nat.zero_lt_one rfl rfl) ?_
 have hb := bind_l H; clear H
 obtain ⟨⟨r35, r37⟩, e38, H⟩ := hb
 refine GoO.effC (ef_call rfl (Take.nil _) (Take.cons _ _ _ _ _ Rem.p0 (Take.nil _)) (flow_piece_spec n l19 n.s e38) (LendL.cons (Lend.agA ⟨⟨⟨⟨trivial, Lend.refl _ _⟩, Lend.refl _ _⟩, Lend.refl _ _⟩, Lend.refl _ _⟩) (LendL.cons (Lend.all' At.p0 (by first | rfl | omega | (simp only [subl_length, cpl_length, List.length_set, List.length_append, List.length_cons, List.length_nil, List.length_replicate, row_len] <;> first | rfl | omega)) rfl) (LendL.cons (Lend.refl _ _) (LendL.nil)))) rfl (flow_piece_I (r35, r37))) (fun rr HH hp => ?_)
 obtain ⟨β36, rfl, rfl⟩ := hp
 refine GoO.pure (ps_move rfl rfl) ?_
 refine GoO.pure (ps_extract rfl rfl rfl) ?_
 refine GoO.pure (ps_extract rfl rfl rfl) ?_
 refine GoO.effB (ef_alloc rfl) (fun β39 => ?_)
 refine GoO.eff1 (ef_storeAg rfl rfl At.p0 upd_whole Nat.zero_lt_one rfl) ?_
 refine GoO.pure (ps_assign rfl rfl) ?_
 refine GoO.nil ?_
 refine GoK.code ?_
 refine GoC.seq ?_
 refine GoC.seq ?_
 refine GoC.region ?_
 refine GoO.pure (ps_move rfl rfl) ?_
 refine GoO.nil ?_
 refine GoK.code ?_
 refine GoC.cond rfl (fun h40 => ?_) (fun h40 => ?_)
 replace H := itb_t h40 H
 refine GoC.region ?_
 refine GoO.pure (ps_move rfl rfl) ?_
 refine GoO.pure (ps_loadAg rfl At.p0 At.p0 Nat.zero_lt_one rfl rfl) ?_
 refine GoO.effB (ef_buildSlice (st1 (nth [.v (.int .i64 r35.amount), .own β36 1 0 r35.arcs.length])) rfl (Parts.cons _ _ _ _ _ _ _ _ ⟨rfl, rfl⟩ (Part.ag _ _ rfl) rfl rfl (Parts.nil _)) rfl rfl rfl rfl) (fun β41 => ?_)
 have c42 := ck_l H; replace H := ck_r H
 refine GoO.effB (ef_append rfl rfl Rem.p6 (Src.own At.p0 (by show 0 + 1 ≤ 1; omega)) (cat_gs1 (α := Piece) (xs := g24) (γ := β36) r35 rfl (by first | rfl | omega | (simp only [row_len, gridC_len, rowO_len, gridS_len] <;> first | rfl | omega)) (fun f hf => by have hf2 : f < 2 := hf; match f, hf2 with | 0, _ => rfl | 1, _ => rfl)) (by simp only [gridS_len, Nat.zero_add]; omega) (app_le c42 rfl) rfl rfl rfl) (fun β43 => ?_)
 refine GoO.pure (ps_assign rfl rfl) ?_
 refine GoO.nil ?_
 refine GoK.code ?_
 refine GoC.region ?_
 refine GoO.pure (ps_move rfl rfl) ?_
 refine GoO.pure (ps_loadAg rfl At.p2 At.p2 Nat.zero_lt_one rfl rfl) ?_
 have hb := bind_l H; clear H
 obtain ⟨l44, e45, H⟩ := hb
 have c46 := ck_l H; replace H := ck_r H
 refine GoO.effC (ef_call rfl (Take.cons _ _ _ _ _ Rem.p4 (Take.nil _)) (Take.cons _ _ _ _ _ Rem.p3 (Take.nil _)) (flow_take_spec l19 r35 β14 e45) (LendL.cons (Lend.refl _ _) (LendL.cons (Lend.agA ⟨⟨trivial, Lend.refl _ _⟩, Lend.all' At.p0 (by first | rfl | omega | (simp only [subl_length, cpl_length, List.length_set, List.length_append, List.length_cons, List.length_nil, List.length_replicate, row_len] <;> first | rfl | omega)) rfl⟩) (LendL.nil))) rfl (flow_take_I (l44) β14)) (fun rr HH hp => ?_)
 obtain ⟨rfl, rfl⟩ := hp
 refine GoO.nil ?_
 refine GoK.blk ?_
 refine GoK.le (Le.absorbS (α := Piece) r35 Rem.p4 Rem.p6 rfl) ?_
 obtain rfl := Option.some.inj H
 exact GoK.againJ m33' (by omega) ⟨_, _, _, _, β20, Γ22, β43, (updF Γ25 g24.length β36), hF27, rfl, rfl⟩ (EnvD.eq rfl (EnvD.cons rfl (DLe.len (by first | rfl | omega | (simp only [row_len, gridC_len, rowO_len, gridS_len, c46] <;> first | rfl | omega))) (EnvD.eq rfl (EnvD.cons rfl (DLe.len (by first | rfl | omega | (simp only [row_len, gridC_len, rowO_len, gridS_len, List.length_append, List.length_cons, List.length_nil, c46] <;> first | rfl | omega))) (EnvD.eq rfl (EnvD.nil)))))) (TkD.cons _ _ _ _ _ Rem.p1 (HLe.refl _) (TkD.cons _ _ _ _ _ Rem.p4 (HLe.refl _) (TkD.cons _ _ _ _ _ Rem.p4 (HLe.refl _) (TkD.cons _ _ _ _ _ Rem.p1 (HLe.refl _) (TkD.cons _ _ _ _ _ Rem.p0 (HLe.refl _) (TkD.cons _ _ _ _ _ Rem.p2 (HLe.refl _) (TkD.cons _ _ _ _ _ Rem.p2 (HLe.refl _) (TkD.cons _ _ _ _ _ Rem.p2 (HLe.refl _) (TkD.cons _ _ _ _ _ Rem.p2 (HLe.refl _) (TkD.cons _ _ _ _ _ Rem.p2 (HLe.st ⟨⟨⟨⟨trivial, DLe.refl _⟩, DLe.refl _⟩, DLe.refl _⟩, DLe.refl _⟩) (TkD.nil _)))))))))))
 replace H := itb_f h40 H
 refine GoC.seq ?_
 refine GoC.region ?_
 refine GoO.pure (ps_fieldAddr rfl rfl) ?_
 refine GoO.pure (ps_load rfl At.p0 At.p0 Nat.zero_lt_one rfl rfl) ?_
 refine GoO.pure (ps_move rfl rfl) ?_
 refine GoO.pure (ps_min rfl rfl rfl) ?_
 refine GoO.pure (ps_fieldAddr rfl rfl) ?_
 refine GoO.eff1 (ef_store rfl rfl rfl At.p0 upd_st1 Nat.zero_lt_one rfl) ?_
 refine GoO.nil ?_
 refine GoK.code ?_
 refine GoC.seq ?_
 refine GoC.region ?_
 refine GoO.pure (ps_move rfl rfl) ?_
 refine GoO.pure (ps_loadAg rfl At.p0 At.p0 Nat.zero_lt_one rfl rfl) ?_
 refine GoO.effB (ef_buildSlice (st1 (nth [.v (.int .i64 (min r35.amount x18)), .own β36 1 0 r35.arcs.length])) rfl (Parts.cons _ _ _ _ _ _ _ _ ⟨rfl, rfl⟩ (Part.ag _ _ rfl) rfl rfl (Parts.nil _)) rfl rfl rfl rfl) (fun β47 => ?_)
 have c48 := ck_l H; replace H := ck_r H
 refine GoO.effB (ef_append rfl rfl Rem.p4 (Src.own At.p0 (by show 0 + 1 ≤ 1; omega)) (cat_gs1 (α := Piece) (xs := g21) (γ := β36) (⟨(min r35.amount x18), r35.arcs⟩ : Piece) rfl (by first | rfl | omega | (simp only [row_len, gridC_len, rowO_len, gridS_len] <;> first | rfl | omega)) (fun f hf => by have hf2 : f < 2 := hf; match f, hf2 with | 0, _ => rfl | 1, _ => rfl)) (by simp only [gridS_len, Nat.zero_add]; omega) (app_le c48 rfl) rfl rfl rfl) (fun β49 => ?_)
 refine GoO.pure (ps_assign rfl rfl) ?_
 refine GoO.nil ?_
 refine GoK.code ?_
 refine GoC.region ?_
 refine GoO.pure (ps_move rfl rfl) ?_
 refine GoO.pure (ps_fieldAddr rfl rfl) ?_
 refine GoO.pure (ps_load rfl At.p2 At.p2 Nat.zero_lt_one rfl rfl) ?_
 have c50 := ck_l H; replace H := ck_r H
 refine GoO.pure (ps_sub rfl rfl rfl c50) ?_
 refine GoO.pure (ps_assign rfl rfl) ?_
 refine GoO.nil ?_
 refine GoK.code ?_
 refine GoC.region ?_
 refine GoO.pure (ps_move rfl rfl) ?_
 refine GoO.pure (ps_loadAg rfl At.p2 At.p2 Nat.zero_lt_one rfl rfl) ?_
 have hb := bind_l H; clear H
 obtain ⟨l51, e52, H⟩ := hb
 have c53 := ck_l H; replace H := ck_r H
 refine GoO.effC (ef_call rfl (Take.cons _ _ _ _ _ Rem.p4 (Take.nil _)) (Take.cons _ _ _ _ _ Rem.p3 (Take.nil _)) (flow_take_spec l19 (⟨(min r35.amount x18), r35.arcs⟩ : Piece) β14 e52) (LendL.cons (Lend.refl _ _) (LendL.cons (Lend.agA ⟨⟨trivial, Lend.refl _ _⟩, Lend.all' At.p0 (by first | rfl | omega | (simp only [subl_length, cpl_length, List.length_set, List.length_append, List.length_cons, List.length_nil, List.length_replicate, row_len] <;> first | rfl | omega)) rfl⟩) (LendL.nil))) rfl (flow_take_I (l51) β14)) (fun rr HH hp => ?_)
 obtain ⟨rfl, rfl⟩ := hp
 refine GoO.nil ?_
 refine GoK.blk ?_
 refine GoK.le (Le.absorbS (α := Piece) (⟨(min r35.amount x18), r35.arcs⟩ : Piece) Rem.p4 Rem.p4 rfl) ?_
 obtain rfl := Option.some.inj H
 exact GoK.againJ m33' (by omega) ⟨_, _, _, _, β49, (updF Γ22 g21.length β36), β23, Γ25, hF27, rfl, rfl⟩ (EnvD.eq rfl (EnvD.cons rfl (DLe.len (by first | rfl | omega | (simp only [row_len, gridC_len, rowO_len, gridS_len, c53] <;> first | rfl | omega))) (EnvD.cons rfl (DLe.len (by first | rfl | omega | (simp only [row_len, gridC_len, rowO_len, gridS_len, List.length_append, List.length_cons, List.length_nil, c53] <;> first | rfl | omega))) (EnvD.eq rfl (EnvD.eq rfl (EnvD.nil)))))) (TkD.cons _ _ _ _ _ Rem.p1 (HLe.refl _) (TkD.cons _ _ _ _ _ Rem.p1 (HLe.refl _) (TkD.cons _ _ _ _ _ Rem.p0 (HLe.refl _) (TkD.cons _ _ _ _ _ Rem.p2 (HLe.refl _) (TkD.cons _ _ _ _ _ Rem.p2 (HLe.refl _) (TkD.cons _ _ _ _ _ Rem.p2 (HLe.refl _) (TkD.cons _ _ _ _ _ Rem.p2 (HLe.refl _) (TkD.cons _ _ _ _ _ Rem.p2 (HLe.refl _) (TkD.cons _ _ _ _ _ Rem.p2 (HLe.refl _) (TkD.cons _ _ _ _ _ Rem.p2 (HLe.st ⟨⟨⟨⟨trivial, DLe.refl _⟩, DLe.refl _⟩, DLe.refl _⟩, DLe.refl _⟩) (TkD.nil _)))))))))))
 replace H := ite_f h34 H
 refine GoC.exit rfl ?_
 obtain rfl := Option.some.inj H
 obtain rfl := Option.some.inj hF27
 exact GoK.meet ⟨_, _, _, _, β20, Γ22, β23, Γ25, rfl, rfl, rfl⟩ (EnvD.cons rfl (DLe.len (by first | rfl | omega | (simp only [row_len, gridC_len, rowO_len, gridS_len] <;> first | rfl | omega))) (EnvD.cons rfl (DLe.len (by first | rfl | omega | (simp only [row_len, gridC_len, rowO_len, gridS_len] <;> first | rfl | omega))) (EnvD.cons rfl (DLe.len (by first | rfl | omega | (simp only [row_len, gridC_len, rowO_len, gridS_len] <;> first | rfl | omega))) (EnvD.eq rfl (EnvD.nil))))) (TkD.cons _ _ _ _ _ Rem.p0 (HLe.refl _) (TkD.cons _ _ _ _ _ Rem.p0 (HLe.refl _) (TkD.cons _ _ _ _ _ Rem.p0 (HLe.refl _) (TkD.cons _ _ _ _ _ Rem.p0 (HLe.refl _) (TkD.cons _ _ _ _ _ Rem.p0 (HLe.refl _) (TkD.cons _ _ _ _ _ Rem.p0 (HLe.refl _) (TkD.cons _ _ _ _ _ Rem.p0 (HLe.refl _) (TkD.cons _ _ _ _ _ Rem.p0 (HLe.refl _) (TkD.cons _ _ _ _ _ Rem.p0 (HLe.refl _) (TkD.cons _ _ _ _ _ Rem.p0 (HLe.st ⟨⟨⟨⟨trivial, DLe.refl _⟩, DLe.refl _⟩, DLe.refl _⟩, DLe.refl _⟩) (TkD.nil _)))))))))))
 rintro v h ⟨x29, l30, g31, g32, β20, Γ22, β23, Γ25, rfl, rfl, rfl⟩
 have H := HK26; clear HK26
 refine GoK.code ?_
 refine GoC.seq ?_
 refine GoC.seq ?_
 refine GoC.region ?_
 refine GoO.pure (ps_move rfl rfl) ?_
 refine GoO.pure (ps_len rfl (by constructor) rfl) ?_
 refine GoO.lenLe (n := l30.length) (x := .tmp 61) rfl (by constructor) own_lenLe (fun ml55 => ?_)
 refine GoO.pure (ps_move rfl rfl) ?_
 refine GoO.nil ?_
 refine GoK.code ?_
 have hb := bind_l H; clear H
 obtain ⟨⟨l63, g64⟩, hl94, HK60⟩ := hb
 refine GoC.blockJ [(10, .own β20 2 0 g31.length)] [.one β20 50 2 (gridS (α := Piece) Γ22 g31), gridI (α := Piece) 3 Γ22 g31, .one β3 50 2 (gridS (α := Piece) (fun _ => β3) ([] : List Piece)), gridI (α := Piece) 3 (fun _ => β3) ([] : List Piece), .one β2 50 2 (gridS (α := Piece) (fun _ => β2) ([] : List Piece)), gridI (α := Piece) 3 (fun _ => β2) ([] : List Piece), .one β1 62 4 (st1 (nth [.v (.int .i64 n.n), .v (.int .i64 n.s), .v (.int .i64 n.t), slD n.as]))] (fun v h => ∃ (β57 : BK) (Γ59 : Nat → BK), v = [(11, .own β57 2 0 g64.length)] ∧ h = [.one β14 3 1 (row l63), .one β57 50 2 (gridS (α := Piece) Γ59 g64), gridI (α := Piece) 3 Γ59 g64]) ?_ ?_
 refine GoC.loopJ [(2, _), (10, _), (62, _)] [.one β20 50 2 (gridS (α := Piece) Γ22 g31), gridI (α := Piece) 3 Γ22 g31, .one β3 50 2 (gridS (α := Piece) (fun _ => β3) ([] : List Piece)), gridI (α := Piece) 3 (fun _ => β3) ([] : List Piece), .one β2 50 2 (gridS (α := Piece) (fun _ => β2) ([] : List Piece)), gridI (α := Piece) 3 (fun _ => β2) ([] : List Piece), .one β1 62 4 (st1 (nth [.v (.int .i64 n.n), .v (.int .i64 n.s), .v (.int .i64 n.t), slD n.as]))] (fun mQ v h => ∃ (k65 : Nat) (l56 : (List Int)) (g58 : (List Piece)) (β57 : BK) (Γ59 : Nat → BK), (k65 + mQ = l30.length ∧ forN (flow_Split_B2 n f) mQ k65 (l56, g58) = some (l63, g64)) ∧ v = [(63, .v (.int .i64 ((k65 : Nat) : Int))), (9, .own β14 1 0 l56.length), (11, .own β57 2 0 g58.length)] ∧ h = [.one β14 3 1 (row l56), .one β57 50 2 (gridS (α := Piece) Γ59 g58), gridI (α := Piece) 3 Γ59 g58]) l30.length ⟨_, _, _, β23, Γ25, ⟨by omega, hl94⟩, rfl, rfl⟩ (EnvD.eq rfl (EnvD.cons rfl (DLe.len (by first | rfl | omega | (simp only [row_len, gridC_len, rowO_len, gridS_len] <;> first | rfl | omega))) (EnvD.cons rfl (DLe.len (by first | rfl | omega | (simp only [row_len, gridC_len, rowO_len, gridS_len] <;> first | rfl | omega))) (EnvD.eq rfl (EnvD.eq rfl (EnvD.eq rfl (EnvD.nil))))))) (TkD.cons _ _ _ _ _ Rem.p0 (HLe.refl _) (TkD.cons _ _ _ _ _ Rem.p2 (HLe.refl _) (TkD.cons _ _ _ _ _ Rem.p2 (HLe.refl _) (TkD.cons _ _ _ _ _ Rem.p0 (HLe.refl _) (TkD.cons _ _ _ _ _ Rem.p0 (HLe.refl _) (TkD.cons _ _ _ _ _ Rem.p0 (HLe.refl _) (TkD.cons _ _ _ _ _ Rem.p0 (HLe.refl _) (TkD.cons _ _ _ _ _ Rem.p0 (HLe.refl _) (TkD.cons _ _ _ _ _ Rem.p0 (HLe.refl _) (TkD.cons _ _ _ _ _ Rem.p0 (HLe.st ⟨⟨⟨⟨trivial, DLe.refl _⟩, DLe.refl _⟩, DLe.refl _⟩, DLe.refl _⟩) (TkD.nil _))))))))))) ?_
 rintro m66 v h ⟨k65, l56, g58, β57, Γ59, ⟨hkk65, hF61⟩, rfl, rfl⟩
 refine GoC.seq ?_
 refine GoC.region ?_
 refine GoO.pure (ps_lss rfl rfl rfl) ?_
 refine GoO.nil ?_
 refine GoK.code ?_
 refine GoC.seq ?_
 refine GoC.condD rfl (fun (hk65 : (k65 : Int) < ((l30.length : Nat) : Int)) => ?_) (fun (hk65 : ¬ (k65 : Int) < ((l30.length : Nat) : Int)) => ?_)
 obtain ⟨m66', rfl⟩ : ∃ x, m66 = x + 1 := ⟨m66 - 1, by omega⟩
 have hb := bind_l hF61; clear hF61
 obtain ⟨qrm66, H, hF61⟩ := hb
 have hnk65 : k65 < l30.length := by omega
 have hIk65 : InI ((k65 : Int) + 1) := inI_len hk65 ml55
 refine GoC.skip ?_
 refine GoK.code ?_
 refine GoC.seq ?_
 refine GoC.block ?_
 refine GoC.seq ?_
 refine GoC.region ?_
 refine GoO.pure (ps_move rfl rfl) ?_
 refine GoO.pure (ps_assign rfl rfl) ?_
 refine GoO.nil ?_
 refine GoK.code ?_
 have hb := bind_l H; clear H
 obtain ⟨q73, hl93, HK71⟩ := hb
 refine GoC.blockJ [(2, .ptr β1 4 0 0), (10, .own β20 2 0 g31.length), (62, .v (.int .i64 ((l30.length : Nat) : Int))), (63, .v (.int .i64 ((k65 : Nat) : Int)))] [.one β20 50 2 (gridS (α := Piece) Γ22 g31), gridI (α := Piece) 3 Γ22 g31, .one β3 50 2 (gridS (α := Piece) (fun _ => β3) ([] : List Piece)), gridI (α := Piece) 3 (fun _ => β3) ([] : List Piece), .one β2 50 2 (gridS (α := Piece) (fun _ => β2) ([] : List Piece)), gridI (α := Piece) 3 (fun _ => β2) ([] : List Piece), .one β1 62 4 (st1 (nth [.v (.int .i64 n.n), .v (.int .i64 n.s), .v (.int .i64 n.t), slD n.as]))] (fun v h => ∃ (l74 : (List Int)) (g75 : (List Piece)) (β68 : BK) (Γ70 : Nat → BK), q73 = .go (l74, g75) ∧ v = [(9, .own β14 1 0 l74.length), (11, .own β68 2 0 g75.length)] ∧ h = [.one β14 3 1 (row l74), .one β68 50 2 (gridS (α := Piece) Γ70 g75), gridI (α := Piece) 3 Γ70 g75]) ?_ ?_
 refine GoC.loopJ [(2, _), (10, _), (14, _), (62, _), (63, _)] [.one β20 50 2 (gridS (α := Piece) Γ22 g31), gridI (α := Piece) 3 Γ22 g31, .one β3 50 2 (gridS (α := Piece) (fun _ => β3) ([] : List Piece)), gridI (α := Piece) 3 (fun _ => β3) ([] : List Piece), .one β2 50 2 (gridS (α := Piece) (fun _ => β2) ([] : List Piece)), gridI (α := Piece) 3 (fun _ => β2) ([] : List Piece), .one β1 62 4 (st1 (nth [.v (.int .i64 n.n), .v (.int .i64 n.s), .v (.int .i64 n.t), slD n.as]))] (fun mQ v h => ∃ (l67 : (List Int)) (g69 : (List Piece)) (β68 : BK) (Γ70 : Nat → BK), loopC (flow_Split_B3 n f k65) mQ (l67, g69) = some q73 ∧ v = [(9, .own β14 1 0 l67.length), (11, .own β68 2 0 g69.length)] ∧ h = [.one β14 3 1 (row l67), .one β68 50 2 (gridS (α := Piece) Γ70 g69), gridI (α := Piece) 3 Γ70 g69]) 1000000 ⟨_, _, β57, Γ59, hl93, rfl, rfl⟩ (EnvD.cons rfl (DLe.len (by first | rfl | omega | (simp only [row_len, gridC_len, rowO_len, gridS_len] <;> first | rfl | omega))) (EnvD.cons rfl (DLe.len (by first | rfl | omega | (simp only [row_len, gridC_len, rowO_len, gridS_len] <;> first | rfl | omega))) (EnvD.eq rfl (EnvD.eq rfl (EnvD.eq rfl (EnvD.eq rfl (EnvD.eq rfl (EnvD.nil)))))))) (TkD.cons _ _ _ _ _ Rem.p0 (HLe.refl _) (TkD.cons _ _ _ _ _ Rem.p0 (HLe.refl _) (TkD.cons _ _ _ _ _ Rem.p0 (HLe.refl _) (TkD.cons _ _ _ _ _ Rem.p0 (HLe.refl _) (TkD.cons _ _ _ _ _ Rem.p0 (HLe.refl _) (TkD.cons _ _ _ _ _ Rem.p0 (HLe.refl _) (TkD.cons _ _ _ _ _ Rem.p0 (HLe.refl _) (TkD.cons _ _ _ _ _ Rem.p0 (HLe.refl _) (TkD.cons _ _ _ _ _ Rem.p0 (HLe.refl _) (TkD.cons _ _ _ _ _ Rem.p0 (HLe.st ⟨⟨⟨⟨trivial, DLe.refl _⟩, DLe.refl _⟩, DLe.refl _⟩, DLe.refl _⟩) (TkD.nil _))))))))))) ?_
 rintro m76 v h ⟨l67, g69, β68, Γ70, hF72, rfl, rfl⟩
 obtain ⟨m76', rfl⟩ | rfl : (∃ x, m76 = x + 1) ∨ m76 = 0 := by cases m76 <;> simp
 case inr => cases hF72
 have hb := bind_l hF72; clear hF72
 obtain ⟨qrm76, H, hF72⟩ := hb
 refine GoC.seq ?_
 refine GoC.seq ?_
 refine GoC.region ?_
 refine GoO.pure (ps_move rfl rfl) ?_
 refine GoO.pure (ps_move rfl rfl) ?_
 have c77 := ck_l H; replace H := ck_r H
 refine GoO.pure (ps_indexAddr0N rfl rfl c77 rfl) ?_
 refine GoO.pure (ps_load rfl At.p0 At.p0 c77 rfl rfl) ?_
 refine GoO.pure (ps_gtr rfl rfl rfl) ?_
 refine GoO.nil ?_
 refine GoK.code ?_
 refine GoC.condD rfl (fun h78 => ?_) (fun h78 => ?_)
 replace H := ite_t h78 H
 refine GoC.skip ?_
 refine GoK.code ?_
 refine GoC.block ?_
 refine GoC.seq ?_
 refine GoC.drawA (.q 0 (.q 1 (.q 2 (.q 3 (.q 4 (.q 5 (.q 6 (.q 7 (.q 8 (.q 9 (.q 10 (.q 11 (.two 12 16 (.q 13 (.q 14 (.q 15 (.one 16 (.one 17 (.q 18 (.done))))))) (.one 12 (.q 13 (.q 14 (.q 15 (.one 17 (.q 18 (.done)))))))))))))))))))) follows (by kernel_rfl) ?_
 refine GoP.qN rfl (ps_fieldAddr rfl rfl) ?_
 refine GoP.qN rfl (ps_load rfl At.p9 At.p9 Nat.zero_lt_one rfl rfl) ?_
 refine GoP.qN rfl (ps_fieldAddr rfl rfl) ?_
 refine GoP.qN rfl (ps_load rfl At.p9 At.p9 Nat.zero_lt_one rfl rfl) ?_
 refine GoP.qN rfl (ps_build (Parts.cons _ _ _ _ _ _ _ _ FdP.of (Part.one _ rfl rfl) rfl rfl (Parts.cons _ _ _ _ _ _ _ _ FdP.of (Part.one _ rfl rfl) rfl rfl (Parts.cons _ _ _ _ _ _ _ _ FdP.of (Part.one _ rfl rfl) rfl rfl (Parts.cons _ _ _ _ _ _ _ _ FdP.of (Part.one _ rfl rfl) rfl rfl (Parts.nil _))))) rfl) ?_
 refine GoP.qN rfl (ps_move rfl rfl) ?_
 refine GoP.qN rfl (ps_fieldAddr rfl rfl) ?_
 refine GoP.qN rfl (ps_load rfl At.p9 At.p9 Nat.zero_lt_one rfl rfl) ?_
 refine GoP.qN rfl (ps_move rfl rfl) ?_
 have c79 := ck_l H; replace H := ck_r H
 refine GoP.qN rfl (ps_indexAddrRN rfl rfl c79 rfl) ?_
 refine GoP.qN rfl (ps_fieldAddrR rfl rfl) ?_
 refine GoP.qN rfl (ps_loadR rfl c79 rfl rfl) ?_
 have hb := bind_l H; clear H
 obtain ⟨⟨r80, r82⟩, e83, H⟩ := hb
 apply GoP.fork2
 exact rfl
 exact rfl
 exact trivial
 exact trivial
 exact ef_call rfl (Take.nil _) (Take.cons _ _ _ _ _ Rem.p0 (Take.nil _)) (flow_piece_spec (⟨n.n, (-1), (-1), n.as⟩ : Net) l67 ((n.as.getD k65 El.d).f) e83) (LendL.cons (Lend.agA ⟨⟨⟨⟨trivial, Lend.refl _ _⟩, Lend.refl _ _⟩, Lend.refl _ _⟩, Lend.refl _ _⟩) (LendL.cons (Lend.all' At.p0 (by first | rfl | omega | (simp only [subl_length, cpl_length, List.length_set, List.length_append, List.length_cons, List.length_nil, List.length_replicate, row_len] <;> first | rfl | omega)) rfl) (LendL.cons (Lend.refl _ _) (LendL.nil)))) rfl (flow_piece_I (r80, r82))
 exact ef_alloc rfl
 exact (Take.cons _ _ _ _ _ Rem.p0 (Take.cons _ _ _ _ _ Rem.p0 (Take.cons _ _ _ _ _ Rem.p0 (Take.cons _ _ _ _ _ Rem.p0 (Take.cons _ _ _ _ _ Rem.p0 (Take.cons _ _ _ _ _ Rem.p0 (Take.cons _ _ _ _ _ Rem.p0 (Take.cons _ _ _ _ _ Rem.p0 (Take.cons _ _ _ _ _ Rem.p0 (Take.cons _ _ _ _ _ Rem.p0 (Take.nil _)))))))))))
 exact (Take.cons _ _ _ _ _ Rem.p0 (Take.cons _ _ _ _ _ Rem.p0 (Take.cons _ _ _ _ _ Rem.p0 (Take.cons _ _ _ _ _ Rem.p0 (Take.cons _ _ _ _ _ Rem.p0 (Take.cons _ _ _ _ _ Rem.p0 (Take.cons _ _ _ _ _ Rem.p0 (Take.cons _ _ _ _ _ Rem.p0 (Take.cons _ _ _ _ _ Rem.p0 (Take.cons _ _ _ _ _ Rem.p0 (Take.nil _)))))))))))
 intro hQ
 rintro _ ⟨_, _, hp, rfl⟩
 obtain ⟨β81, rfl, rfl⟩ := hp
 refine GoP.qN rfl (ps_move rfl rfl) ?_
 refine GoP.qN rfl (ps_extract rfl rfl rfl) ?_
 refine GoP.qN rfl (ps_extract rfl rfl rfl) ?_
 refine GoP.oneB rfl trivial (ef_alloc rfl) (Take.cons _ _ _ _ _ Rem.p1 (Take.cons _ _ _ _ _ Rem.p1 (Take.cons _ _ _ _ _ Rem.p1 (Take.cons _ _ _ _ _ Rem.p1 (Take.cons _ _ _ _ _ Rem.p1 (Take.cons _ _ _ _ _ Rem.p1 (Take.cons _ _ _ _ _ Rem.p1 (Take.cons _ _ _ _ _ Rem.p1 (Take.cons _ _ _ _ _ Rem.p1 (Take.cons _ _ _ _ _ Rem.p1 (Take.nil _))))))))))) (fun β86 => ?_)
 refine GoP.one1 rfl trivial (ef_storeAg rfl rfl At.p0 upd_whole Nat.zero_lt_one rfl) (Take.cons _ _ _ _ _ Rem.p0 (Take.cons _ _ _ _ _ Rem.p1 (Take.cons _ _ _ _ _ Rem.p1 (Take.cons _ _ _ _ _ Rem.p1 (Take.cons _ _ _ _ _ Rem.p1 (Take.cons _ _ _ _ _ Rem.p1 (Take.cons _ _ _ _ _ Rem.p1 (Take.cons _ _ _ _ _ Rem.p1 (Take.cons _ _ _ _ _ Rem.p1 (Take.cons _ _ _ _ _ Rem.p1 (Take.cons _ _ _ _ _ Rem.p1 (Take.nil _)))))))))))) ?_
 refine GoP.qN rfl (ps_assign rfl rfl) ?_
 exact GoP.done (hQ β81 β86)
 intro hQ
 rintro _ ⟨β85, rfl⟩
 refine GoP.oneC rfl trivial (ef_call rfl (Take.nil _) (Take.cons _ _ _ _ _ Rem.p1 (Take.nil _)) (flow_piece_spec (⟨n.n, (-1), (-1), n.as⟩ : Net) l67 ((n.as.getD k65 El.d).f) e83) (LendL.cons (Lend.agA ⟨⟨⟨⟨trivial, Lend.refl _ _⟩, Lend.refl _ _⟩, Lend.refl _ _⟩, Lend.refl _ _⟩) (LendL.cons (Lend.all' At.p0 (by first | rfl | omega | (simp only [subl_length, cpl_length, List.length_set, List.length_append, List.length_cons, List.length_nil, List.length_replicate, row_len] <;> first | rfl | omega)) rfl) (LendL.cons (Lend.refl _ _) (LendL.nil)))) rfl (flow_piece_I (r80, r82))) (Take.cons _ _ _ _ _ Rem.p1 (Take.cons _ _ _ _ _ Rem.p1 (Take.cons _ _ _ _ _ Rem.p1 (Take.cons _ _ _ _ _ Rem.p1 (Take.cons _ _ _ _ _ Rem.p1 (Take.cons _ _ _ _ _ Rem.p1 (Take.cons _ _ _ _ _ Rem.p1 (Take.cons _ _ _ _ _ Rem.p1 (Take.cons _ _ _ _ _ Rem.p1 (Take.cons _ _ _ _ _ Rem.p1 (Take.nil _))))))))))) (fun rr HH hp => ?_)
 obtain ⟨β81, rfl, rfl⟩ := hp
 refine GoP.qN rfl (ps_move rfl rfl) ?_
 refine GoP.qN rfl (ps_extract rfl rfl rfl) ?_
 refine GoP.qN rfl (ps_extract rfl rfl rfl) ?_
 refine GoP.one1 rfl trivial (ef_storeAg rfl rfl At.p1 upd_whole Nat.zero_lt_one rfl) (Take.cons _ _ _ _ _ Rem.p1 (Take.cons _ _ _ _ _ Rem.p1 (Take.cons _ _ _ _ _ Rem.p1 (Take.cons _ _ _ _ _ Rem.p1 (Take.cons _ _ _ _ _ Rem.p1 (Take.cons _ _ _ _ _ Rem.p1 (Take.cons _ _ _ _ _ Rem.p1 (Take.cons _ _ _ _ _ Rem.p1 (Take.cons _ _ _ _ _ Rem.p1 (Take.cons _ _ _ _ _ Rem.p1 (Take.cons _ _ _ _ _ Rem.p1 (Take.nil _)))))))))))) ?_
 refine GoP.qN rfl (ps_assign rfl rfl) ?_
 refine GoP.done (GoK.le ?_ (hQ β81 β85))
 refine Le.ofDW ?_ (TkD.cons _ _ _ _ _ Rem.p1 (HLe.refl _) (TkD.cons _ _ _ _ _ Rem.p0 (HLe.refl _) (TkD.cons _ _ _ _ _ Rem.p0 (HLe.refl _) (TkD.cons _ _ _ _ _ Rem.p0 (HLe.refl _) (TkD.cons _ _ _ _ _ Rem.p0 (HLe.refl _) (TkD.cons _ _ _ _ _ Rem.p0 (HLe.refl _) (TkD.cons _ _ _ _ _ Rem.p0 (HLe.refl _) (TkD.cons _ _ _ _ _ Rem.p0 (HLe.refl _) (TkD.cons _ _ _ _ _ Rem.p0 (HLe.refl _) (TkD.cons _ _ _ _ _ Rem.p0 (HLe.refl _) (TkD.cons _ _ _ _ _ Rem.p0 (HLe.refl _) (TkD.cons _ _ _ _ _ Rem.p0 (HLe.refl _) (TkD.nil _)))))))))))))
 repeat (first | exact EnvLeW.nil | refine EnvLeW.cons rfl ?_ | refine EnvLeW.skip rfl ?_)
 intro β81 β86
 refine GoK.code ?_
 refine GoC.seq ?_
 refine GoC.region ?_
 refine GoO.pure (ps_move rfl rfl) ?_
 refine GoO.pure (ps_loadAg rfl At.p0 At.p0 Nat.zero_lt_one rfl rfl) ?_
 have hb := bind_l H; clear H
 obtain ⟨l87, e88, H⟩ := hb
 have c89 := ck_l H; replace H := ck_r H
 refine GoO.effC (ef_call rfl (Take.cons _ _ _ _ _ Rem.p2 (Take.nil _)) (Take.cons _ _ _ _ _ Rem.p1 (Take.nil _)) (flow_take_spec l67 r80 β14 e88) (LendL.cons (Lend.refl _ _) (LendL.cons (Lend.agA ⟨⟨trivial, Lend.refl _ _⟩, Lend.all' At.p0 (by first | rfl | omega | (simp only [subl_length, cpl_length, List.length_set, List.length_append, List.length_cons, List.length_nil, List.length_replicate, row_len] <;> first | rfl | omega)) rfl⟩) (LendL.nil))) rfl (flow_take_I (l87) β14)) (fun rr HH hp => ?_)
 obtain ⟨rfl, rfl⟩ := hp
 refine GoO.nil ?_
 refine GoK.code ?_
 refine GoC.region ?_
 refine GoO.pure (ps_move rfl rfl) ?_
 refine GoO.pure (ps_loadAg rfl At.p1 At.p1 Nat.zero_lt_one rfl rfl) ?_
 refine GoO.effB (ef_buildSlice (st1 (nth [.v (.int .i64 r80.amount), .own β81 1 0 r80.arcs.length])) rfl (Parts.cons _ _ _ _ _ _ _ _ ⟨rfl, rfl⟩ (Part.ag _ _ rfl) rfl rfl (Parts.nil _)) rfl rfl rfl rfl) (fun β90 => ?_)
 have c91 := ck_l H; replace H := ck_r H
 refine GoO.effB (ef_append rfl rfl Rem.p4 (Src.own At.p0 (by show 0 + 1 ≤ 1; omega)) (cat_gs1 (α := Piece) (xs := g69) (γ := β81) r80 rfl (by first | rfl | omega | (simp only [row_len, gridC_len, rowO_len, gridS_len, c89] <;> first | rfl | omega)) (fun f hf => by have hf2 : f < 2 := hf; match f, hf2 with | 0, _ => rfl | 1, _ => rfl)) (by simp only [gridS_len, Nat.zero_add]; omega) (app_le c91 rfl) rfl rfl rfl) (fun β92 => ?_)
 refine GoO.pure (ps_assign rfl rfl) ?_
 refine GoO.nil ?_
 refine GoK.blk ?_
 refine GoK.le (Le.absorbS (α := Piece) r80 Rem.p4 Rem.p4 rfl) ?_
 obtain rfl := Option.some.inj H
 exact GoK.againJ m76' (by omega) ⟨_, _, β92, (updF Γ70 g69.length β81), hF72, rfl, rfl⟩ (EnvD.cons rfl (DLe.len (by first | rfl | omega | (simp only [row_len, gridC_len, rowO_len, gridS_len, c89] <;> first | rfl | omega))) (EnvD.cons rfl (DLe.len (by first | rfl | omega | (simp only [row_len, gridC_len, rowO_len, gridS_len, List.length_append, List.length_cons, List.length_nil, c89] <;> first | rfl | omega))) (EnvD.eq rfl (EnvD.eq rfl (EnvD.eq rfl (EnvD.eq rfl (EnvD.eq rfl (EnvD.nil)))))))) (TkD.cons _ _ _ _ _ Rem.p3 (HLe.refl _) (TkD.cons _ _ _ _ _ Rem.p1 (HLe.refl _) (TkD.cons _ _ _ _ _ Rem.p0 (HLe.refl _) (TkD.cons _ _ _ _ _ Rem.p2 (HLe.refl _) (TkD.cons _ _ _ _ _ Rem.p2 (HLe.refl _) (TkD.cons _ _ _ _ _ Rem.p2 (HLe.refl _) (TkD.cons _ _ _ _ _ Rem.p2 (HLe.refl _) (TkD.cons _ _ _ _ _ Rem.p2 (HLe.refl _) (TkD.cons _ _ _ _ _ Rem.p2 (HLe.refl _) (TkD.cons _ _ _ _ _ Rem.p2 (HLe.st ⟨⟨⟨⟨trivial, DLe.refl _⟩, DLe.refl _⟩, DLe.refl _⟩, DLe.refl _⟩) (TkD.nil _)))))))))))
 replace H := ite_f h78 H
 refine GoC.exit rfl ?_
 obtain rfl := Option.some.inj H
 obtain rfl := Option.some.inj hF72
 exact GoK.meet ⟨_, _, β68, Γ70, rfl, rfl, rfl⟩ (EnvD.cons rfl (DLe.len (by first | rfl | omega | (simp only [row_len, gridC_len, rowO_len, gridS_len] <;> first | rfl | omega))) (EnvD.cons rfl (DLe.len (by first | rfl | omega | (simp only [row_len, gridC_len, rowO_len, gridS_len] <;> first | rfl | omega))) (EnvD.eq rfl (EnvD.eq rfl (EnvD.eq rfl (EnvD.eq rfl (EnvD.nil))))))) (TkD.cons _ _ _ _ _ Rem.p0 (HLe.refl _) (TkD.cons _ _ _ _ _ Rem.p0 (HLe.refl _) (TkD.cons _ _ _ _ _ Rem.p0 (HLe.refl _) (TkD.cons _ _ _ _ _ Rem.p0 (HLe.refl _) (TkD.cons _ _ _ _ _ Rem.p0 (HLe.refl _) (TkD.cons _ _ _ _ _ Rem.p0 (HLe.refl _) (TkD.cons _ _ _ _ _ Rem.p0 (HLe.refl _) (TkD.cons _ _ _ _ _ Rem.p0 (HLe.refl _) (TkD.cons _ _ _ _ _ Rem.p0 (HLe.refl _) (TkD.cons _ _ _ _ _ Rem.p0 (HLe.st ⟨⟨⟨⟨trivial, DLe.refl _⟩, DLe.refl _⟩, DLe.refl _⟩, DLe.refl _⟩) (TkD.nil _)))))))))))
 rintro v h ⟨l74, g75, β68, Γ70, rfl, rfl, rfl⟩
 have H := HK71; clear HK71
 refine GoK.blk ?_
 refine GoK.code ?_
 refine GoC.region ?_
 refine GoO.pure (ps_add rfl rfl rfl hIk65) ?_
 refine GoO.pure (ps_move rfl rfl) ?_
 refine GoO.nil ?_
 obtain rfl := Option.some.inj H
 exact GoK.againJ m66' (by omega) ⟨_, _, _, β68, Γ70, ⟨by omega, hF61⟩, rfl, rfl⟩ (EnvD.eq rfl (EnvD.cons rfl (DLe.len (by first | rfl | omega | (simp only [row_len, gridC_len, rowO_len, gridS_len] <;> first | rfl | omega))) (EnvD.cons rfl (DLe.len (by first | rfl | omega | (simp only [row_len, gridC_len, rowO_len, gridS_len] <;> first | rfl | omega))) (EnvD.eq rfl (EnvD.eq rfl (EnvD.eq rfl (EnvD.nil))))))) (TkD.cons _ _ _ _ _ Rem.p0 (HLe.refl _) (TkD.cons _ _ _ _ _ Rem.p0 (HLe.refl _) (TkD.cons _ _ _ _ _ Rem.p0 (HLe.refl _) (TkD.cons _ _ _ _ _ Rem.p0 (HLe.refl _) (TkD.cons _ _ _ _ _ Rem.p0 (HLe.refl _) (TkD.cons _ _ _ _ _ Rem.p0 (HLe.refl _) (TkD.cons _ _ _ _ _ Rem.p0 (HLe.refl _) (TkD.cons _ _ _ _ _ Rem.p0 (HLe.refl _) (TkD.cons _ _ _ _ _ Rem.p0 (HLe.refl _) (TkD.cons _ _ _ _ _ Rem.p0 (HLe.st ⟨⟨⟨⟨trivial, DLe.refl _⟩, DLe.refl _⟩, DLe.refl _⟩, DLe.refl _⟩) (TkD.nil _)))))))))))
 obtain rfl : m66 = 0 := by omega
 refine GoC.exit rfl ?_
 cases hF61
 exact GoK.meet ⟨β57, Γ59, rfl, rfl⟩ (EnvD.cons rfl (DLe.len (by first | rfl | omega | (simp only [row_len, gridC_len, rowO_len, gridS_len] <;> first | rfl | omega))) (EnvD.eq rfl (EnvD.nil))) (TkD.cons _ _ _ _ _ Rem.p0 (HLe.refl _) (TkD.cons _ _ _ _ _ Rem.p0 (HLe.refl _) (TkD.cons _ _ _ _ _ Rem.p0 (HLe.refl _) (TkD.cons _ _ _ _ _ Rem.p0 (HLe.refl _) (TkD.cons _ _ _ _ _ Rem.p0 (HLe.refl _) (TkD.cons _ _ _ _ _ Rem.p0 (HLe.refl _) (TkD.cons _ _ _ _ _ Rem.p0 (HLe.refl _) (TkD.cons _ _ _ _ _ Rem.p0 (HLe.refl _) (TkD.cons _ _ _ _ _ Rem.p0 (HLe.refl _) (TkD.cons _ _ _ _ _ Rem.p0 (HLe.st ⟨⟨⟨⟨trivial, DLe.refl _⟩, DLe.refl _⟩, DLe.refl _⟩, DLe.refl _⟩) (TkD.nil _)))))))))))
 rintro v h ⟨β57, Γ59, rfl, rfl⟩
 have H := HK60; clear HK60
 refine GoK.code ?_
 refine GoC.seq ?_
 refine GoC.region ?_
 refine GoO.pure (ps_move rfl rfl) ?_
 refine GoO.pure (ps_move rfl rfl) ?_
 refine GoO.pure (ps_assign rfl rfl) ?_
 refine GoO.pure (ps_assign rfl rfl) ?_
 refine GoO.pure (ps_assign rfl rfl) ?_
 refine GoO.nil ?_
 refine GoK.code ?_
 obtain rfl := Option.some.inj H
 exact GoC.retL (ds := [.own β20 2 0 g31.length, .own β57 2 0 g64.length, .v (.int .i64 0)]) Try.results30 (ResL.cons (ResD.tmp rfl) (ResL.cons (ResD.tmp rfl) (ResL.cons (ResD.tmp rfl) (ResL.nil)))) (Take.cons _ _ _ _ _ Rem.p3 (Take.cons _ _ _ _ _ Rem.p3 (Take.cons _ _ _ _ _ Rem.p1 (Take.cons _ _ _ _ _ Rem.p1 (Take.nil _))))) ⟨β20, β57, Γ22, Γ59, rfl, rfl⟩

end Go.Proofs.Ytlpelkfcmeapiaa
