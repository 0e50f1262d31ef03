/- The functions weirref.Ones, told as plain functions, and that the code does as they say. -/
import Derived.Test.YthgjamhcnaamdaaTys
import Derived.Test.YthgjamhcnaamdaaDat
namespace Go.Proofs.Ythgjamhcnaamdaa
open Go Go.Proofs.Ythgjamhcnaamdaa.Sx
set_option linter.unusedVariables false
set_option linter.unusedSimpArgs false
def weirref_Ones_B1 (s : Int) : Nat → Int → Option (Int) := fun k6 x1 =>
 ck (InI (x1 + (bitsOf .and .i64 (Int.fdiv s (2 ^ min k6 64)) 1))) <|
 some (x1 + (bitsOf .and .i64 (Int.fdiv s (2 ^ min k6 64)) 1))
def weirref_Ones_F (s : Int) : Option (Int) :=
 (forN (weirref_Ones_B1 s) 16 0 0).bind fun x5 =>
 some x5
def weirref_Ones_P (out : Int) (d : D) (H : List HL) : Prop := d = .v (.int .i64 out) ∧ H = []
theorem weirref_Ones_I (out : Int) : IndepP (weirref_Ones_P out) := IndepP.of (by rintro _ _ ⟨rfl, rfl⟩; exact ⟨inferInstance, inferInstance⟩)
set_option maxRecDepth 100000 in
set_option maxHeartbeats 4000000 in
theorem weirref_Ones_spec (s : Int) {out : Int} (H : weirref_Ones_F s = some out) : Does Try.prog 27 [.v (.int .i64 s)] [] (weirref_Ones_P out) := by
 unfold weirref_Ones_F at H
 refine Does.intro Try.func27 rfl Try.ntmps27 rfl fun w0 I0 => ?_
 refine GoC.seq ?_
 refine GoC.region ?_
 refine GoO.pure (ps_assign rfl rfl) ?_
 refine GoO.nil ?_
 refine GoK.code ?_
 refine GoC.seq ?_
 refine GoC.region ?_
 refine GoO.pure (ps_assign rfl rfl) ?_
 refine GoO.nil ?_
 refine GoK.code ?_
 refine GoC.seq ?_
 refine GoC.seq ?_
 refine GoC.region ?_
 refine GoO.pure (ps_move rfl rfl) ?_
 refine GoO.nil ?_
 refine GoK.code ?_
 have hb := bind_l H; clear H
 obtain ⟨x5, hl9, HK2⟩ := hb
 refine GoC.blockJ [] [] (fun v h => v = [(3, .v (.int .i64 x5))] ∧ h = []) ?_ ?_
 refine GoC.loopJ [(0, _)] [] (fun mQ v h => ∃ (k6 : Nat) (x1 : Int), (k6 + mQ = 16 ∧ forN (weirref_Ones_B1 s) mQ k6 x1 = some x5) ∧ v = [(5, .v (.int .i64 ((k6 : Nat) : Int))), (3, .v (.int .i64 x1))] ∧ h = []) 16 ⟨_, _, ⟨by omega, hl9⟩, rfl, rfl⟩ (EnvD.eq rfl (EnvD.eq rfl (EnvD.eq rfl (EnvD.nil)))) (TkD.nil _) ?_
 rintro m7 v h ⟨k6, x1, ⟨hkk6, hF3⟩, rfl, rfl⟩
 refine GoC.seq ?_
 refine GoC.region ?_
 refine GoO.pure (ps_lss rfl rfl rfl) ?_
 refine GoO.nil ?_
 refine GoK.code ?_
 refine GoC.seq ?_
 refine GoC.condD rfl (fun (hk6 : (k6 : Int) < ((16 : Nat) : Int)) => ?_) (fun (hk6 : ¬ (k6 : Int) < ((16 : Nat) : Int)) => ?_)
 obtain ⟨m7', rfl⟩ : ∃ x, m7 = x + 1 := ⟨m7 - 1, by omega⟩
 have hb := bind_l hF3; clear hF3
 obtain ⟨qrm7, H, hF3⟩ := hb
 have hnk6 : k6 < 16 := by omega
 have hIk6 : InI ((k6 : Int) + 1) := inI_cnt hk6 (by unfold InI; omega)
 refine GoC.skip ?_
 refine GoK.code ?_
 refine GoC.seq ?_
 refine GoC.block ?_
 refine GoC.seq ?_
 refine GoC.region ?_
 refine GoO.pure (ps_move rfl rfl) ?_
 refine GoO.pure (ps_assign rfl rfl) ?_
 refine GoO.nil ?_
 refine GoK.code ?_
 refine GoC.region ?_
 refine GoO.pure (ps_move rfl rfl) ?_
 refine GoO.pure (ps_move rfl rfl) ?_
 refine GoO.pure (ps_move rfl rfl) ?_
 refine GoO.pure (ps_shr rfl rfl rfl (by omega)) ?_
 refine GoO.pure (ps_and rfl rfl rfl) ?_
 have c8 := ck_l H; replace H := ck_r H
 refine GoO.pure (ps_add rfl rfl rfl c8) ?_
 refine GoO.pure (ps_assign rfl rfl) ?_
 refine GoO.nil ?_
 refine GoK.blk ?_
 refine GoK.code ?_
 refine GoC.region ?_
 refine GoO.pure (ps_add rfl rfl rfl hIk6) ?_
 refine GoO.pure (ps_move rfl rfl) ?_
 refine GoO.nil ?_
 obtain rfl := Option.some.inj H
 exact GoK.againJ m7' (by omega) ⟨_, _, ⟨by omega, hF3⟩, rfl, rfl⟩ (EnvD.eq rfl (EnvD.eq rfl (EnvD.eq rfl (EnvD.nil)))) (TkD.nil _)
 obtain rfl : m7 = 0 := by omega
 refine GoC.exit rfl ?_
 cases hF3
 exact GoK.meet ⟨rfl, rfl⟩ (EnvD.eq rfl (EnvD.nil)) (TkD.nil _)
 rintro v h ⟨rfl, rfl⟩
 have H := HK2; clear HK2
 refine GoK.code ?_
 refine GoC.seq ?_
 refine GoC.region ?_
 refine GoO.pure (ps_move rfl rfl) ?_
 refine GoO.pure (ps_assign rfl rfl) ?_
 refine GoO.nil ?_
 refine GoK.code ?_
 obtain rfl := Option.some.inj H
 exact GoC.retL (ds := [.v (.int .i64 x5)]) Try.results27 (ResL.cons (ResD.tmp rfl) (ResL.nil)) (Take.nil _) ⟨rfl, rfl⟩

end Go.Proofs.Ythgjamhcnaamdaa
