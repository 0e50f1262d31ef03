/- The functions weirref.Rest, told as plain functions, and that the code does as they say. -/
import Derived.Test.YtgkcmjmofcekmaaTys
import Derived.Test.YtgkcmjmofcekmaaDat
namespace Go.Proofs.Ytgkcmjmofcekmaa
open Go Go.Proofs.Ytgkcmjmofcekmaa.Sx
set_option linter.unusedVariables false
set_option linter.unusedSimpArgs false
def weirref_Rest_F (n : Int) (m : Int) : Option (Int) :=
 ck ((m : Int) ≠ 0) <|
 if (Int.tmod n m) < 0 then
  ck (InI ((Int.tmod n m) + m)) <|
  some ((Int.tmod n m) + m)
 else
  some (Int.tmod n m)
def weirref_Rest_P (out : Int) (d : D) (H : List HL) : Prop := d = .v (.int .i64 out) ∧ H = []
theorem weirref_Rest_I (out : Int) : IndepP (weirref_Rest_P out) := IndepP.of (by rintro _ _ ⟨rfl, rfl⟩; exact ⟨inferInstance, inferInstance⟩)
set_option maxRecDepth 100000 in
set_option maxHeartbeats 4000000 in
theorem weirref_Rest_spec (n : Int) (m : Int) {out : Int} (H : weirref_Rest_F n m = some out) : Does Try.prog 23 [.v (.int .i64 n), .v (.int .i64 m)] [] (weirref_Rest_P out) := by
 unfold weirref_Rest_F at H
 refine Does.intro Try.func23 rfl Try.ntmps23 rfl fun w0 I0 tb0 => ?_
 refine GoC.seq ?_
 refine GoC.region ?_
 refine GoO.pure (ps_assign rfl rfl) ?_
 refine GoO.nil ?_
 refine GoK.code ?_
 refine GoC.seq ?_
 refine GoC.region ?_
 refine GoO.pure (ps_move rfl rfl) ?_
 refine GoO.pure (ps_move rfl rfl) ?_
 have c1 := ck_l H; replace H := ck_r H
 refine GoO.pure (ps_rem rfl rfl rfl c1) ?_
 refine GoO.pure (ps_assign rfl rfl) ?_
 refine GoO.nil ?_
 refine GoK.code ?_
 refine GoC.seq ?_
 refine GoC.seq ?_
 refine GoC.region ?_
 refine GoO.pure (ps_move rfl rfl) ?_
 refine GoO.pure (ps_lss rfl rfl rfl) ?_
 refine GoO.nil ?_
 refine GoK.code ?_
 refine GoC.condD rfl (fun h2 => ?_) (fun h2 => ?_)
 replace H := ite_t h2 H
 refine GoC.region ?_
 refine GoO.pure (ps_move rfl rfl) ?_
 refine GoO.pure (ps_move rfl rfl) ?_
 have c3 := ck_l H; replace H := ck_r H
 refine GoO.pure (ps_add rfl rfl rfl c3) ?_
 refine GoO.pure (ps_assign rfl rfl) ?_
 refine GoO.nil ?_
 refine GoK.code ?_
 refine GoC.seq ?_
 refine GoC.region ?_
 refine GoO.pure (ps_move rfl rfl) ?_
 refine GoO.pure (ps_assign rfl rfl) ?_
 refine GoO.nil ?_
 refine GoK.code ?_
 obtain rfl := Option.some.inj H
 exact GoC.retL (ds := [.v (.int .i64 ((Int.tmod n m) + m))]) Try.results23 (ResL.cons (ResD.tmp rfl) (ResL.nil)) (Take.nil _) ⟨rfl, rfl⟩
 replace H := ite_f h2 H
 refine GoC.skip ?_
 refine GoK.code ?_
 refine GoC.seq ?_
 refine GoC.region ?_
 refine GoO.pure (ps_move rfl rfl) ?_
 refine GoO.pure (ps_assign rfl rfl) ?_
 refine GoO.nil ?_
 refine GoK.code ?_
 obtain rfl := Option.some.inj H
 exact GoC.retL (ds := [.v (.int .i64 (Int.tmod n m))]) Try.results23 (ResL.cons (ResD.tmp rfl) (ResL.nil)) (Take.nil _) ⟨rfl, rfl⟩

end Go.Proofs.Ytgkcmjmofcekmaa
