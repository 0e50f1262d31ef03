import Derived.Test.YthchdnemndolbaaDoorQTys
import Derived.Test.YthchdnemndolbaaDoorQDat
import Derived.Test.YthchdnemndolbaaDoorQGgraph
namespace Go.Proofs.YthchdnemndolbaaDoor
open Go Go.Proofs.YthchdnemndolbaaDoor.Sx
set_option linter.unusedVariables false
set_option linter.unusedSimpArgs false
def tree_det_B2 (a : (List (List Int))) (k12 : Nat) (g2 : (List (List Int))) : Nat → Option (Ct (Nat) (Ct ((List (List Int)) × Int × Int) (Int))) := fun n14 =>
 if ((n14 : Nat) : Int) < ((a.length : Nat) : Int) then
  ck (n14 < g2.length) <|
  ck (k12 < (g2.getD n14 []).length) <|
  if ((g2.getD n14 []).getD k12 (0 : Int)) = 0 then
   ck (InI (((n14 : Nat) : Int) + 1)) <|
   some (.go (n14 + 1))
  else
   some (.brk n14)
 else
  some (.brk n14)
def tree_det_B4 (a : (List (List Int))) (k12 : Nat) (x5 : Int) (n38 : Nat) : ((List (List Int)) × Nat) → Option (Ct ((List (List Int)) × Nat) (Ct ((List (List Int)) × Nat) (Ct ((List (List Int)) × Int × Int) (Int)))) := fun (g46, n48) =>
 if ((n48 : Nat) : Int) < ((a.length : Nat) : Int) then
  ck (n38 < g46.length) <|
  ck (n48 < (g46.getD n38 []).length) <|
  ck (k12 < g46.length) <|
  ck (k12 < (g46.getD k12 []).length) <|
  ck (InI (((g46.getD n38 []).getD n48 (0 : Int)) * ((g46.getD k12 []).getD k12 (0 : Int)))) <|
  ck (k12 < (g46.getD n38 []).length) <|
  ck (n48 < (g46.getD k12 []).length) <|
  ck (InI (((g46.getD n38 []).getD k12 (0 : Int)) * ((g46.getD k12 []).getD n48 (0 : Int)))) <|
  ck (InI ((((g46.getD n38 []).getD n48 (0 : Int)) * ((g46.getD k12 []).getD k12 (0 : Int))) - (((g46.getD n38 []).getD k12 (0 : Int)) * ((g46.getD k12 []).getD n48 (0 : Int))))) <|
  ck ((x5 : Int) ≠ 0) <|
  ck (InI (Int.tdiv ((((g46.getD n38 []).getD n48 (0 : Int)) * ((g46.getD k12 []).getD k12 (0 : Int))) - (((g46.getD n38 []).getD k12 (0 : Int)) * ((g46.getD k12 []).getD n48 (0 : Int)))) x5)) <|
  ck (InI (((n48 : Nat) : Int) + 1)) <|
  some (.go ((g46.set n38 ((g46.getD n38 []).set n48 (Int.tdiv ((((g46.getD n38 []).getD n48 (0 : Int)) * ((g46.getD k12 []).getD k12 (0 : Int))) - (((g46.getD n38 []).getD k12 (0 : Int)) * ((g46.getD k12 []).getD n48 (0 : Int)))) x5))), (n48 + 1)))
 else
  some (.brk (g46, n48))
def tree_det_B3 (a : (List (List Int))) (k12 : Nat) (x5 : Int) : ((List (List Int)) × Nat) → Option (Ct ((List (List Int)) × Nat) (Ct ((List (List Int)) × Int × Int) (Int))) := fun (g36, n38) =>
 if ((n38 : Nat) : Int) < ((a.length : Nat) : Int) then
  (loopC (tree_det_B4 a k12 x5 n38) 1000000 (g36, (k12 + 1))).bind fun q => match q with
  | .go (g52, n53) =>
   ck (InI (((n38 : Nat) : Int) + 1)) <|
   some (.go (g52, (n38 + 1)))
  | .ret x => some x
 else
  some (.brk (g36, n38))
def tree_det_B1 (a : (List (List Int))) : Nat → ((List (List Int)) × Int × Int) → Option (Ct ((List (List Int)) × Int × Int) (Int)) := fun k12 (g2, x4, x5) =>
 (loopC (tree_det_B2 a k12 g2) 1000000 k12).bind fun q => match q with
 | .go n18 =>
  if ((n18 : Nat) : Int) = ((a.length : Nat) : Int) then
   some (.ret 0)
  else
   ((
    if ((n18 : Nat) : Int) ≠ ((k12 : Nat) : Int) then
     ck (k12 < g2.length) <|
     ck (n18 < g2.length) <|
     ck (InI (-x4)) <|
     some (((g2.set n18 (g2.getD k12 [])).set k12 (g2.getD n18 [])), (-x4))
    else
     some (g2, x4)) : Option ((List (List Int)) × Int)).bind fun (g27, x29) =>
   (loopC (tree_det_B3 a k12 x5) 1000000 (g27, (k12 + 1))).bind fun q => match q with
   | .go (g42, n43) =>
    ck (k12 < g42.length) <|
    ck (k12 < (g42.getD k12 []).length) <|
    some (.go (g42, x29, ((g42.getD k12 []).getD k12 (0 : Int))))
   | .ret x => some x
 | .ret x => some x
def tree_det_F (a : (List (List Int))) : Option (Int) :=
 (forC (tree_det_B1 a) a.length 0 (a, 1, 1)).bind fun q => match q with
 | .go (g9, x10, x11) =>
  ck (InI (x10 * x11)) <|
  some (x10 * x11)
 | .ret x => some x
def tree_det_P (out : Int) (βa : BK) (Γa : Nat → BK) (d : D) (H : List HL) : Prop := d = .v (.int .i64 out) ∧ H = []
theorem tree_det_I (out : Int) (βa : BK) (Γa : Nat → BK) : IndepP (tree_det_P out βa Γa) := IndepP.of (by rintro _ _ ⟨rfl, rfl⟩; exact ⟨inferInstance, inferInstance⟩)
set_option maxRecDepth 100000 in
set_option maxHeartbeats 4000000 in
theorem tree_det_spec (a : (List (List Int))) (βa : BK) (Γa : Nat → BK) {out : Int} (H : tree_det_F a = some out) : Does Tryd.prog 69 [.own βa 1 0 a.length] [.one βa 43 1 (gridC Γa a), gridH (α := Int) 3 Γa a] (tree_det_P out βa Γa) := by
 unfold tree_det_F at H
 refine Does.intro Tryd.func69 rfl Tryd.ntmps69 rfl fun w0 I0 tb0 => ?_
 refine Qj (Qc ?_)
 refine Qa (Qi rfl rfl) ?_
 refine Qo (Qe (Qj (Qc ?_)))
 refine Qa (Ql rfl rfl) ?_
 refine Qa (ps_len rfl (by constructor) rfl) ?_
 refine GoO.lenLe (n := a.length) (x := .tmp 10) rfl (by constructor) own_lenLe (fun ml1 => ?_)
 refine Qa (Qi rfl rfl) ?_
 refine Qa (Qi rfl rfl) ?_
 refine Qa (Qi rfl rfl) ?_
 refine Qo (Qe (Qj (Qj (Qc ?_))))
 refine Qa (Ql rfl rfl) ?_
 refine Qa (Ql rfl rfl) ?_
 refine Qo (Qe ?_)
 have hb := Jd H; clear H
 obtain ⟨q8, hl73, HK6⟩ := hb
 refine GoC.blockJ [] [] (fun v h => ∃ (g9 : (List (List Int))) (x10 : Int) (x11 : Int) (Γ3 : Nat → BK), q8 = .go (g9, x10, x11) ∧ v = [(4, .v (.int .i64 x10)), (5, .v (.int .i64 x11))] ∧ h = [.one βa 43 1 (gridC Γ3 g9), gridH (α := Int) 3 Γ3 g9]) ?_ ?_
 refine GoC.loopJ [(3, _), (12, _)] [] (fun mQ v h => ∃ (k12 : Nat) (g2 : (List (List Int))) (x4 : Int) (x5 : Int) (Γ3 : Nat → BK), (k12 + mQ = a.length ∧ forC (tree_det_B1 a) mQ k12 (g2, x4, x5) = some q8) ∧ v = [(13, .v (.int .i64 ((k12 : Nat) : Int))), (0, .own βa 1 0 g2.length), (4, .v (.int .i64 x4)), (5, .v (.int .i64 x5))] ∧ h = [.one βa 43 1 (gridC Γ3 g2), gridH (α := Int) 3 Γ3 g2]) a.length ⟨_, _, _, _, Γa, ⟨by omega, hl73⟩, rfl, rfl⟩ (Qg rfl (Jm rfl (Jp (by first | rfl | omega | (simp only [row_len, gridC_len, rowO_len] <;> first | rfl | omega))) (Qg rfl (Qg rfl (Qg rfl (Qg rfl (Qy))))))) (Qn _ _ _ _ _ Qk (Qr _) (Qn _ _ _ _ _ Qk (Qr _) (Jb _))) ?_
 rintro m13 v h ⟨k12, g2, x4, x5, Γ3, ⟨hkk12, hF7⟩, rfl, rfl⟩
 refine Qj (Qc ?_)
 refine Qa (ps_lss rfl rfl rfl) ?_
 refine Qo (Qe (Qj ?_))
 refine Jc rfl (fun (hk12 : (k12 : Int) < ((a.length : Nat) : Int)) => ?_) (fun (hk12 : ¬ (k12 : Int) < ((a.length : Nat) : Int)) => ?_)
 obtain ⟨m13', rfl⟩ : ∃ x, m13 = x + 1 := ⟨m13 - 1, by omega⟩
 have hb := Jd hF7; clear hF7
 obtain ⟨qrm13, H, hF7⟩ := hb
 have hnk12 : k12 < a.length := by omega
 have hIk12 : InI ((k12 : Int) + 1) := inI_len hk12 ml1
 refine Jg (Qe (Qj (GoC.block (Qj (Qc ?_)))))
 refine Qa (Ql rfl rfl) ?_
 refine Qa (Qi rfl rfl) ?_
 refine Qo (Qe (Qj (Qc ?_)))
 refine Qa (Ql rfl rfl) ?_
 refine Qa (Qi rfl rfl) ?_
 refine Qo (Qe (Qj ?_))
 have hb := Jd H; clear H
 obtain ⟨q17, hl25, HK15⟩ := hb
 refine GoC.blockJ [(0, .own βa 1 0 g2.length), (3, .v (.int .i64 ((a.length : Nat) : Int))), (4, .v (.int .i64 x4)), (5, .v (.int .i64 x5)), (6, .v (.int .i64 ((k12 : Nat) : Int))), (12, .v (.int .i64 ((a.length : Nat) : Int))), (13, .v (.int .i64 ((k12 : Nat) : Int)))] [.one βa 43 1 (gridC Γ3 g2), gridH (α := Int) 3 Γ3 g2] (fun v h => ∃ (n18 : Nat), q17 = .go n18 ∧ v = [(7, .v (.int .i64 ((n18 : Nat) : Int)))] ∧ h = []) ?_ ?_
 refine GoC.loopJ [(0, _), (3, _), (4, _), (5, _), (6, _), (12, _), (13, _)] [.one βa 43 1 (gridC Γ3 g2), gridH (α := Int) 3 Γ3 g2] (fun mQ v h => ∃ (n14 : Nat), loopC (tree_det_B2 a k12 g2) mQ n14 = some q17 ∧ v = [(7, .v (.int .i64 ((n14 : Nat) : Int)))] ∧ h = []) 1000000 ⟨_, hl25, rfl, rfl⟩ (Qg rfl (Qg rfl (Qg rfl (Qg rfl (Qg rfl (Qg rfl (Qg rfl (Qg rfl (Qy))))))))) (Qn _ _ _ _ _ Qk (Qr _) (Qn _ _ _ _ _ Qk (Qr _) (Jb _))) ?_
 rintro m19 v h ⟨n14, hF16, rfl, rfl⟩
 obtain ⟨m19', rfl⟩ | rfl : (∃ x, m19 = x + 1) ∨ m19 = 0 := by cases m19 <;> simp
 case inr => cases hF16
 have hb := Jd hF16; clear hF16
 obtain ⟨qrm19, H, hF16⟩ := hb
 refine Qj (Qj (Qc ?_))
 refine Qa (Ql rfl rfl) ?_
 refine Qa (Ql rfl rfl) ?_
 refine Qa (ps_lss rfl rfl rfl) ?_
 refine Qa (Ql rfl rfl) ?_
 refine GoO.guardD rfl rfl rfl rfl (fun h20 => ?_) (fun h20 => ?_)
 replace H := Jt h20 H
 refine Qa (Ql rfl rfl) ?_
 refine Jl rfl rfl rfl ?_
 refine Qa (Ql rfl rfl) ?_
 refine Jl rfl rfl rfl ?_
 have c21 := ck_l H; replace H := ck_r H
 refine Qa (ps_indexAddr0N rfl rfl c21 rfl) ?_
 refine Jl rfl rfl rfl ?_
 refine Qa (Jf rfl Qw Qw c21 rfl rfl) ?_
 refine Jl rfl rfl rfl ?_
 refine Qa (Ql rfl rfl) ?_
 refine Jl rfl rfl rfl ?_
 have c22 := ck_l H; replace H := ck_r H
 refine Qa (ps_indexAddr0N rfl rfl c22 rfl) ?_
 refine Jl rfl rfl rfl ?_
 refine Qa (ps_loadG (α := Int) (xs := g2) rfl rfl Js Js c21 c22 rfl rfl) ?_
 refine Jl rfl rfl rfl ?_
 refine Qa (ps_eql rfl rfl rfl) ?_
 refine Qa (ps_pickT rfl rfl rfl) ?_
 refine Qo (Qe ?_)
 refine Jc rfl (fun h23 => ?_) (fun h23 => ?_)
 replace H := Jt h23 H
 refine Jg (Qe (GoC.block (Qc ?_)))
 refine Qa (Ql rfl rfl) ?_
 have c24 := ck_l H; replace H := ck_r H
 refine Qa (ps_add rfl rfl rfl c24) ?_
 refine Qa (Qi rfl rfl) ?_
 refine Qo (GoK.blk ?_)
 obtain rfl := Qf H
 exact GoK.againJ m19' (by omega) ⟨_, hF16, rfl, rfl⟩ (Qg rfl (Qg rfl (Qg rfl (Qg rfl (Qg rfl (Qg rfl (Qg rfl (Qg rfl (Qy))))))))) (Qn _ _ _ _ _ Qk (Qr _) (Qn _ _ _ _ _ Qk (Qr _) (Jb _)))
 replace H := Ju h23 H
 refine GoC.exit rfl ?_
 obtain rfl := Qf H
 obtain rfl := Qf hF16
 exact Jr ⟨_, rfl, rfl, rfl⟩ (Qg rfl (Qg rfl (Qg rfl (Qg rfl (Qg rfl (Qg rfl (Qg rfl (Qg rfl (Qy))))))))) (Qn _ _ _ _ _ Qk (Qr _) (Qn _ _ _ _ _ Qk (Qr _) (Jb _)))
 replace H := Ju h20 H
 refine Ja rfl rfl rfl rfl ?_
 refine Ja rfl rfl rfl rfl ?_
 refine Ja rfl rfl rfl rfl ?_
 refine Ja rfl rfl rfl rfl ?_
 refine Ja rfl rfl rfl rfl ?_
 refine Ja rfl rfl rfl rfl ?_
 refine Ja rfl rfl rfl rfl ?_
 refine Qa (ps_pickF rfl rfl rfl) ?_
 refine Qo (Qe ?_)
 refine GoC.condF rfl ?_
 refine GoC.exit rfl ?_
 obtain rfl := Qf H
 obtain rfl := Qf hF16
 exact Jr ⟨_, rfl, rfl, rfl⟩ (Qg rfl (Qg rfl (Qg rfl (Qg rfl (Qg rfl (Qg rfl (Qg rfl (Qg rfl (Qy))))))))) (Qn _ _ _ _ _ Qk (Qr _) (Qn _ _ _ _ _ Qk (Qr _) (Jb _)))
 rintro v h ⟨n18, rfl, rfl, rfl⟩
 have H := HK15; clear HK15
 refine Qe (Qj (Qj (Qc ?_)))
 refine Qa (Ql rfl rfl) ?_
 refine Qa (Ql rfl rfl) ?_
 refine Qa (ps_eql rfl rfl rfl) ?_
 refine Qo (Qe ?_)
 refine Jc rfl (fun h26 => ?_) (fun h26 => ?_)
 replace H := Jt h26 H
 refine Qj (Qc ?_)
 refine Qa (Qi rfl rfl) ?_
 refine Qo (Qe ?_)
 obtain rfl := Qf H
 obtain rfl := Qf hF7
 obtain rfl := Qf HK6
 exact Jh (ds := [.v (.int .i64 0)]) Tryd.results69 (Qt (Qv rfl) (Je)) (Qm _) ⟨rfl, rfl⟩
 replace H := Ju h26 H
 refine Jg (Qe ?_)
 have hb := Jd H; clear H
 obtain ⟨⟨g27, x29⟩, H, HK30⟩ := hb
 refine GoC.seqJ [(3, .v (.int .i64 ((a.length : Nat) : Int))), (5, .v (.int .i64 x5)), (6, .v (.int .i64 ((k12 : Nat) : Int))), (12, .v (.int .i64 ((a.length : Nat) : Int))), (13, .v (.int .i64 ((k12 : Nat) : Int)))] [] (fun v h => ∃ (Γ28 : Nat → BK), v = [(0, .own βa 1 0 g27.length), (4, .v (.int .i64 x29))] ∧ h = [.one βa 43 1 (gridC Γ28 g27), gridH (α := Int) 3 Γ28 g27]) ?_ ?_
 refine Qj (Qc ?_)
 refine Qa (Ql rfl rfl) ?_
 refine Qa (Ql rfl rfl) ?_
 refine Qa (ps_neq rfl rfl rfl) ?_
 refine Qo (Qe ?_)
 refine Jc rfl (fun h32 => ?_) (fun h32 => ?_)
 replace H := Jt h32 H
 refine GoC.drawQ (.q 0 (.q 1 (.q 2 (.q 3 (.q 4 (.q 5 (.q 6 (.q 7 (.q 8 (.q 9 (.q 10 (.q 11 (.q 12 (.q 13 (.q 14 (.one 15 (.q 16 (.one 17 (.q 18 (.done)))))))))))))))))))) 15 follows (by kernel_rfl) ?_
 refine Jo rfl rfl (Ql rfl rfl) ?_
 refine Jo rfl rfl (Ql rfl rfl) ?_
 refine Jo rfl rfl (Ql rfl rfl) ?_
 refine Jo rfl rfl (Ql rfl rfl) ?_
 refine Jo rfl rfl (Ql rfl rfl) ?_
 refine Jo rfl rfl (Ql rfl rfl) ?_
 have c33 := ck_l H; replace H := ck_r H
 refine Jo rfl rfl (ps_indexAddr0N rfl rfl c33 rfl) ?_
 refine GoQ.qN rfl (by kernel_rfl) (Jf rfl Qw Qw c33 rfl rfl) ?_
 refine Jo rfl rfl (Ql rfl rfl) ?_
 refine Jo rfl rfl (Ql rfl rfl) ?_
 have c34 := ck_l H; replace H := ck_r H
 refine Jo rfl rfl (ps_indexAddr0N rfl rfl c34 rfl) ?_
 refine GoQ.qN rfl (by kernel_rfl) (Jf rfl Qw Qw c34 rfl rfl) ?_
 refine Jo rfl rfl (Ql rfl rfl) ?_
 have c35 := ck_l H; replace H := ck_r H
 refine Jo rfl rfl (ps_neg rfl rfl c35) ?_
 refine Jo rfl rfl (ps_indexAddr0N rfl rfl c34 rfl) ?_
 refine GoQ.last1 rfl Qs (ef_store rfl rfl rfl Qw (upd_grid (α := Int) (ys := (g2.getD k12 [])) rfl (by first | rfl | omega | (simp only [szl]; omega) | (simp only [szl]; done) | simp)) c34 rfl) (Qd _ _ _ _ _ Qk (Qm _)) ?_
 refine Qx rfl (ps_indexAddr0N rfl rfl c33 rfl) ?_
 refine GoP.one1 rfl Qs (ef_store rfl rfl rfl Qw (upd_grid (α := Int) (ys := (g2.getD n18 [])) rfl (by first | rfl | omega | (simp only [szl]; omega) | (simp only [szl]; done) | simp)) (lt_len c33 (by first | rfl | omega | (simp only [row_len, gridC_len, rowO_len, List.length_set, List.length_cons, List.length_nil, List.length_nil] <;> first | rfl | omega))) rfl) (Qd _ _ _ _ _ Qk (Qm _)) ?_
 refine GoP.leD (Le.reH Js (HLe.gridX (α := Int) (xs := g2) (i := n18) (k := k12) c34 c33)) ?_
 refine Qx rfl (Qi rfl rfl) ?_
 refine GoP.done ?_
 cases H
 exact Jr ⟨(updF (updF Γ3 n18 (Γ3 k12)) k12 (Γ3 n18)), rfl, rfl⟩ (Jm rfl (Jp (by first | rfl | omega | (simp only [row_len, gridC_len, rowO_len, List.length_set, List.length_cons, List.length_nil, List.length_nil] <;> first | rfl | omega))) (Qg rfl (Qg rfl (Qg rfl (Qg rfl (Qg rfl (Qg rfl (Qy)))))))) (Qn _ _ _ _ _ Qk (Qr _) (Qn _ _ _ _ _ Qk (Qr _) (Jb _)))
 replace H := Ju h32 H
 refine Jg ?_
 cases H
 exact Jr ⟨Γ3, rfl, rfl⟩ (Jm rfl (Jp (by first | rfl | omega | (simp only [row_len, gridC_len, rowO_len] <;> first | rfl | omega))) (Qg rfl (Qg rfl (Qg rfl (Qg rfl (Qg rfl (Qg rfl (Qy)))))))) (Qn _ _ _ _ _ Qk (Qr _) (Qn _ _ _ _ _ Qk (Qr _) (Jb _)))
 rintro v h ⟨Γ28, rfl, rfl⟩
 have H := HK30; clear HK30
 refine Qj (Qj (Qc ?_))
 refine Qa (Ql rfl rfl) ?_
 refine Qa (ps_add rfl rfl rfl hIk12) ?_
 refine Qa (Qi rfl rfl) ?_
 refine Qo (Qe ?_)
 have hb := Jd H; clear H
 obtain ⟨q41, hl70, HK39⟩ := hb
 refine GoC.blockJ [(3, .v (.int .i64 ((a.length : Nat) : Int))), (4, .v (.int .i64 x29)), (6, .v (.int .i64 ((k12 : Nat) : Int))), (12, .v (.int .i64 ((a.length : Nat) : Int))), (13, .v (.int .i64 ((k12 : Nat) : Int)))] [] (fun v h => ∃ (g42 : (List (List Int))) (n43 : Nat) (Γ37 : Nat → BK), q41 = .go (g42, n43) ∧ v = [(0, .own βa 1 0 g42.length)] ∧ h = [.one βa 43 1 (gridC Γ37 g42), gridH (α := Int) 3 Γ37 g42]) ?_ ?_
 refine GoC.loopJ [(3, _), (4, _), (5, _), (6, _), (12, _), (13, _)] [] (fun mQ v h => ∃ (g36 : (List (List Int))) (n38 : Nat) (Γ37 : Nat → BK), loopC (tree_det_B3 a k12 x5) mQ (g36, n38) = some q41 ∧ v = [(0, .own βa 1 0 g36.length), (8, .v (.int .i64 ((n38 : Nat) : Int)))] ∧ h = [.one βa 43 1 (gridC Γ37 g36), gridH (α := Int) 3 Γ37 g36]) 1000000 ⟨_, _, Γ28, hl70, rfl, rfl⟩ (Jm rfl (Jp (by first | rfl | omega | (simp only [row_len, gridC_len, rowO_len] <;> first | rfl | omega))) (Qg rfl (Qg rfl (Qg rfl (Qg rfl (Qg rfl (Qg rfl (Qg rfl (Qy))))))))) (Qn _ _ _ _ _ Qk (Qr _) (Qn _ _ _ _ _ Qk (Qr _) (Jb _))) ?_
 rintro m44 v h ⟨g36, n38, Γ37, hF40, rfl, rfl⟩
 obtain ⟨m44', rfl⟩ | rfl : (∃ x, m44 = x + 1) ∨ m44 = 0 := by cases m44 <;> simp
 case inr => cases hF40
 have hb := Jd hF40; clear hF40
 obtain ⟨qrm44, H, hF40⟩ := hb
 refine Qj (Qj (Qc ?_))
 refine Qa (Ql rfl rfl) ?_
 refine Qa (Ql rfl rfl) ?_
 refine Qa (ps_lss rfl rfl rfl) ?_
 refine Qo (Qe ?_)
 refine Jc rfl (fun h45 => ?_) (fun h45 => ?_)
 replace H := Jt h45 H
 refine Jg (Qe (Qj (GoC.block (Qj (Qc ?_)))))
 refine Qa (Ql rfl rfl) ?_
 refine Qa (ps_add rfl rfl rfl hIk12) ?_
 refine Qa (Qi rfl rfl) ?_
 refine Qo (Qe ?_)
 have hb := Jd H; clear H
 obtain ⟨q51, hl68, HK49⟩ := hb
 refine GoC.blockJ [(3, .v (.int .i64 ((a.length : Nat) : Int))), (4, .v (.int .i64 x29)), (5, .v (.int .i64 x5)), (6, .v (.int .i64 ((k12 : Nat) : Int))), (8, .v (.int .i64 ((n38 : Nat) : Int))), (12, .v (.int .i64 ((a.length : Nat) : Int))), (13, .v (.int .i64 ((k12 : Nat) : Int)))] [] (fun v h => ∃ (g52 : (List (List Int))) (n53 : Nat) (Γ47 : Nat → BK), q51 = .go (g52, n53) ∧ v = [(0, .own βa 1 0 g52.length)] ∧ h = [.one βa 43 1 (gridC Γ47 g52), gridH (α := Int) 3 Γ47 g52]) ?_ ?_
 refine GoC.loopJ [(3, _), (4, _), (5, _), (6, _), (8, _), (12, _), (13, _)] [] (fun mQ v h => ∃ (g46 : (List (List Int))) (n48 : Nat) (Γ47 : Nat → BK), loopC (tree_det_B4 a k12 x5 n38) mQ (g46, n48) = some q51 ∧ v = [(0, .own βa 1 0 g46.length), (9, .v (.int .i64 ((n48 : Nat) : Int)))] ∧ h = [.one βa 43 1 (gridC Γ47 g46), gridH (α := Int) 3 Γ47 g46]) 1000000 ⟨_, _, Γ37, hl68, rfl, rfl⟩ (Jm rfl (Jp (by first | rfl | omega | (simp only [row_len, gridC_len, rowO_len] <;> first | rfl | omega))) (Qg rfl (Qg rfl (Qg rfl (Qg rfl (Qg rfl (Qg rfl (Qg rfl (Qg rfl (Qy)))))))))) (Qn _ _ _ _ _ Qk (Qr _) (Qn _ _ _ _ _ Qk (Qr _) (Jb _))) ?_
 rintro m54 v h ⟨g46, n48, Γ47, hF50, rfl, rfl⟩
 obtain ⟨m54', rfl⟩ | rfl : (∃ x, m54 = x + 1) ∨ m54 = 0 := by cases m54 <;> simp
 case inr => cases hF50
 have hb := Jd hF50; clear hF50
 obtain ⟨qrm54, H, hF50⟩ := hb
 refine Qj (Qj (Qc ?_))
 refine Qa (Ql rfl rfl) ?_
 refine Qa (Ql rfl rfl) ?_
 refine Qa (ps_lss rfl rfl rfl) ?_
 refine Qo (Qe ?_)
 refine Jc rfl (fun h55 => ?_) (fun h55 => ?_)
 replace H := Jt h55 H
 refine Jg (Qe (Qj (GoC.block ?_)))
 refine GoC.drawQ (.q 0 (.q 1 (.q 2 (.q 3 (.q 4 (.q 5 (.q 6 (.q 7 (.q 8 (.q 9 (.q 10 (.q 11 (.q 12 (.q 13 (.q 14 (.q 15 (.q 16 (.q 17 (.q 18 (.q 19 (.q 20 (.q 21 (.q 22 (.q 23 (.q 24 (.q 25 (.q 26 (.q 27 (.q 28 (.q 29 (.q 30 (.q 31 (.q 32 (.q 33 (.q 34 (.q 35 (.q 36 (.q 37 (.q 38 (.one 39 (.done))))))))))))))))))))))))))))))))))))))))) 39 follows (by kernel_rfl) ?_
 refine Jo rfl rfl (Ql rfl rfl) ?_
 refine Jo rfl rfl (Ql rfl rfl) ?_
 have c56 := ck_l H; replace H := ck_r H
 refine Jo rfl rfl (ps_indexAddr0N rfl rfl c56 rfl) ?_
 refine GoQ.qN rfl (by kernel_rfl) (Jf rfl Qw Qw c56 rfl rfl) ?_
 refine Jo rfl rfl (Ql rfl rfl) ?_
 refine Jo rfl rfl (Ql rfl rfl) ?_
 refine Jo rfl rfl (Ql rfl rfl) ?_
 refine Jo rfl rfl (ps_indexAddr0N rfl rfl c56 rfl) ?_
 refine GoQ.qN rfl (by kernel_rfl) (Jf rfl Qw Qw c56 rfl rfl) ?_
 refine Jo rfl rfl (Ql rfl rfl) ?_
 have c57 := ck_l H; replace H := ck_r H
 refine Jo rfl rfl (ps_indexAddr0N rfl rfl c57 rfl) ?_
 refine GoQ.qN rfl (by kernel_rfl) (ps_loadG (α := Int) (xs := g46) rfl rfl Js Js c56 c57 rfl rfl) ?_
 refine Jo rfl rfl (Ql rfl rfl) ?_
 refine Jo rfl rfl (Ql rfl rfl) ?_
 have c58 := ck_l H; replace H := ck_r H
 refine Jo rfl rfl (ps_indexAddr0N rfl rfl c58 rfl) ?_
 refine GoQ.qN rfl (by kernel_rfl) (Jf rfl Qw Qw c58 rfl rfl) ?_
 refine Jo rfl rfl (Ql rfl rfl) ?_
 have c59 := ck_l H; replace H := ck_r H
 refine Jo rfl rfl (ps_indexAddr0N rfl rfl c59 rfl) ?_
 refine GoQ.qN rfl (by kernel_rfl) (ps_loadG (α := Int) (xs := g46) rfl rfl Js Js c58 c59 rfl rfl) ?_
 have c60 := ck_l H; replace H := ck_r H
 refine Jo rfl rfl (ps_mul rfl rfl rfl c60) ?_
 refine Jo rfl rfl (Ql rfl rfl) ?_
 refine Jo rfl rfl (Ql rfl rfl) ?_
 refine Jo rfl rfl (ps_indexAddr0N rfl rfl c56 rfl) ?_
 refine GoQ.qN rfl (by kernel_rfl) (Jf rfl Qw Qw c56 rfl rfl) ?_
 refine Jo rfl rfl (Ql rfl rfl) ?_
 have c61 := ck_l H; replace H := ck_r H
 refine Jo rfl rfl (ps_indexAddr0N rfl rfl c61 rfl) ?_
 refine GoQ.qN rfl (by kernel_rfl) (ps_loadG (α := Int) (xs := g46) rfl rfl Js Js c56 c61 rfl rfl) ?_
 refine Jo rfl rfl (Ql rfl rfl) ?_
 refine Jo rfl rfl (Ql rfl rfl) ?_
 refine Jo rfl rfl (ps_indexAddr0N rfl rfl c58 rfl) ?_
 refine GoQ.qN rfl (by kernel_rfl) (Jf rfl Qw Qw c58 rfl rfl) ?_
 refine Jo rfl rfl (Ql rfl rfl) ?_
 have c62 := ck_l H; replace H := ck_r H
 refine Jo rfl rfl (ps_indexAddr0N rfl rfl c62 rfl) ?_
 refine GoQ.qN rfl (by kernel_rfl) (ps_loadG (α := Int) (xs := g46) rfl rfl Js Js c58 c62 rfl rfl) ?_
 have c63 := ck_l H; replace H := ck_r H
 refine Jo rfl rfl (ps_mul rfl rfl rfl c63) ?_
 have c64 := ck_l H; replace H := ck_r H
 refine Jo rfl rfl (ps_sub rfl rfl rfl c64) ?_
 refine Jo rfl rfl (Ql rfl rfl) ?_
 have c65 := ck_l H; replace H := ck_r H
 have c66 := ck_l H; replace H := ck_r H
 refine Jo rfl rfl (ps_quo rfl rfl rfl c65 c66) ?_
 refine Jo rfl rfl (ps_indexAddr0N rfl rfl c57 rfl) ?_
 refine GoQ.last1 rfl Qs (ef_storeG (α := Int) (xs := g46) (v := (Int.tdiv ((((g46.getD n38 []).getD n48 (0 : Int)) * ((g46.getD k12 []).getD k12 (0 : Int))) - (((g46.getD n38 []).getD k12 (0 : Int)) * ((g46.getD k12 []).getD n48 (0 : Int)))) x5)) rfl rfl rfl rfl Js (upd_row1 (v := (Int.tdiv ((((g46.getD n38 []).getD n48 (0 : Int)) * ((g46.getD k12 []).getD k12 (0 : Int))) - (((g46.getD n38 []).getD k12 (0 : Int)) * ((g46.getD k12 []).getD n48 (0 : Int)))) x5)) rfl) c56 c57 rfl) (Qd _ _ _ _ _ Jk (Qm _)) ?_
 refine GoP.leD (Le.reH Qw (HLe.gridW (α := Int) (i := n38) (e := n48) (v := (Int.tdiv ((((g46.getD n38 []).getD n48 (0 : Int)) * ((g46.getD k12 []).getD k12 (0 : Int))) - (((g46.getD n38 []).getD k12 (0 : Int)) * ((g46.getD k12 []).getD n48 (0 : Int)))) x5)))) ?_
 refine GoP.done ?_
 refine GoK.blk (Qe (Qc ?_))
 refine Qa (Ql rfl rfl) ?_
 have c67 := ck_l H; replace H := ck_r H
 refine Qa (ps_add rfl rfl rfl c67) ?_
 refine Qa (Qi rfl rfl) ?_
 refine Qo ?_
 obtain rfl := Qf H
 exact GoK.againJ m54' (by omega) ⟨_, _, Γ47, hF50, rfl, rfl⟩ (Jm rfl (Jp (by first | rfl | omega | (simp only [row_len, gridC_len, rowO_len, List.length_set, List.length_cons, List.length_nil, List.length_nil] <;> first | rfl | omega))) (Qg rfl (Qg rfl (Qg rfl (Qg rfl (Qg rfl (Qg rfl (Qg rfl (Qg rfl (Qy)))))))))) (Qn _ _ _ _ _ Qk (Qr _) (Qn _ _ _ _ _ Qk (Qr _) (Jb _)))
 replace H := Ju h55 H
 refine GoC.exit rfl ?_
 obtain rfl := Qf H
 obtain rfl := Qf hF50
 exact Jr ⟨_, _, Γ47, rfl, rfl, rfl⟩ (Jm rfl (Jp (by first | rfl | omega | (simp only [row_len, gridC_len, rowO_len] <;> first | rfl | omega))) (Qg rfl (Qg rfl (Qg rfl (Qg rfl (Qg rfl (Qg rfl (Qg rfl (Qy))))))))) (Qn _ _ _ _ _ Qk (Qr _) (Qn _ _ _ _ _ Qk (Qr _) (Jb _)))
 rintro v h ⟨g52, n53, Γ47, rfl, rfl, rfl⟩
 have H := HK49; clear HK49
 refine GoK.blk (Qe (Qc ?_))
 refine Qa (Ql rfl rfl) ?_
 have c69 := ck_l H; replace H := ck_r H
 refine Qa (ps_add rfl rfl rfl c69) ?_
 refine Qa (Qi rfl rfl) ?_
 refine Qo ?_
 obtain rfl := Qf H
 exact GoK.againJ m44' (by omega) ⟨_, _, Γ47, hF40, rfl, rfl⟩ (Jm rfl (Jp (by first | rfl | omega | (simp only [row_len, gridC_len, rowO_len] <;> first | rfl | omega))) (Qg rfl (Qg rfl (Qg rfl (Qg rfl (Qg rfl (Qg rfl (Qg rfl (Qy))))))))) (Qn _ _ _ _ _ Qk (Qr _) (Qn _ _ _ _ _ Qk (Qr _) (Jb _)))
 replace H := Ju h45 H
 refine GoC.exit rfl ?_
 obtain rfl := Qf H
 obtain rfl := Qf hF40
 exact Jr ⟨_, _, Γ37, rfl, rfl, rfl⟩ (Jm rfl (Jp (by first | rfl | omega | (simp only [row_len, gridC_len, rowO_len] <;> first | rfl | omega))) (Qg rfl (Qg rfl (Qg rfl (Qg rfl (Qg rfl (Qy))))))) (Qn _ _ _ _ _ Qk (Qr _) (Qn _ _ _ _ _ Qk (Qr _) (Jb _)))
 rintro v h ⟨g42, n43, Γ37, rfl, rfl, rfl⟩
 have H := HK39; clear HK39
 refine Qe (Qc ?_)
 refine Qa (Ql rfl rfl) ?_
 refine Qa (Ql rfl rfl) ?_
 have c71 := ck_l H; replace H := ck_r H
 refine Qa (ps_indexAddr0N rfl rfl c71 rfl) ?_
 refine Qa (Jf rfl Qw Qw c71 rfl rfl) ?_
 refine Qa (Ql rfl rfl) ?_
 have c72 := ck_l H; replace H := ck_r H
 refine Qa (ps_indexAddr0N rfl rfl c72 rfl) ?_
 refine Qa (ps_loadG (α := Int) (xs := g42) rfl rfl Js Js c71 c72 rfl rfl) ?_
 refine Qa (Qi rfl rfl) ?_
 refine Qo (GoK.blk (Qe (Qc ?_)))
 refine Qa (ps_add rfl rfl rfl hIk12) ?_
 refine Qa (Ql rfl rfl) ?_
 refine Qo ?_
 obtain rfl := Qf H
 exact GoK.againJ m13' (by omega) ⟨_, _, _, _, Γ37, ⟨by omega, hF7⟩, rfl, rfl⟩ (Qg rfl (Jm rfl (Jp (by first | rfl | omega | (simp only [row_len, gridC_len, rowO_len] <;> first | rfl | omega))) (Qg rfl (Qg rfl (Qg rfl (Qg rfl (Qy))))))) (Qn _ _ _ _ _ Qk (Qr _) (Qn _ _ _ _ _ Qk (Qr _) (Jb _)))
 obtain rfl : m13 = 0 := by omega
 refine GoC.exit rfl ?_
 cases hF7
 exact Jr ⟨_, _, _, Γ3, rfl, rfl, rfl⟩ (Qg rfl (Qg rfl (Qy))) (Qn _ _ _ _ _ Qk (Qr _) (Qn _ _ _ _ _ Qk (Qr _) (Jb _)))
 rintro v h ⟨g9, x10, x11, Γ3, rfl, rfl, rfl⟩
 have H := HK6; clear HK6
 refine Qe (Qj (Qc ?_))
 refine Qa (Ql rfl rfl) ?_
 refine Qa (Ql rfl rfl) ?_
 have c74 := ck_l H; replace H := ck_r H
 refine Qa (ps_mul rfl rfl rfl c74) ?_
 refine Qa (Qi rfl rfl) ?_
 refine Qo (Qe ?_)
 obtain rfl := Qf H
 exact Jh (ds := [.v (.int .i64 (x10 * x11))]) Tryd.results69 (Qt (Qv rfl) (Je)) (Qm _) ⟨rfl, rfl⟩
def tree_Count_c1_F (p0 : Int) (p1 : Int) (p2 : Int) (c_0 : Graph) (c_1 : (List (List Int))) : Option ((List (List Int))) :=
 ck (InI (c_0.n - 1)) <|
 if p0 < (c_0.n - 1) then
  if p1 < (c_0.n - 1) then
   ck (0 ≤ p0 ∧ p0 < ((c_1.length : Nat) : Int)) <|
   ck (0 ≤ p1 ∧ p1 < (((c_1.getD p0.toNat []).length : Nat) : Int)) <|
   ck (InI (((c_1.getD p0.toNat []).getD p1.toNat (0 : Int)) + p2)) <|
   some (c_1.set p0.toNat ((c_1.getD p0.toNat []).set p1.toNat (((c_1.getD p0.toNat []).getD p1.toNat (0 : Int)) + p2)))
  else
   some c_1
 else
  some c_1
def tree_Count_c1_P (out : (List (List Int))) (βc_1 : BK) (Γc_1 : Nat → BK) (d : D) (H : List HL) : Prop := ∃ Γx0 : Nat → BK, d = .tp 0 (nth []) ∧ H = [.one βc_1 43 1 (gridC Γx0 out), gridH (α := Int) 3 Γx0 out]
theorem tree_Count_c1_I (out : (List (List Int))) (βc_1 : BK) (Γc_1 : Nat → BK) : IndepP (tree_Count_c1_P out βc_1 Γc_1) := IndepP.of (by rintro _ _ ⟨Γx0, rfl, rfl⟩; exact ⟨inferInstance, inferInstance⟩)
set_option maxRecDepth 100000 in
set_option maxHeartbeats 4000000 in
theorem tree_Count_c1_spec (p0 : Int) (p1 : Int) (p2 : Int) (c_0 : Graph) (c_1 : (List (List Int))) (βc_1 : BK) (Γc_1 : Nat → BK) {out : (List (List Int))} (H : tree_Count_c1_F p0 p1 p2 c_0 c_1 = some out) : Does Tryd.prog 68 [.v (.int .i64 p0), .v (.int .i64 p1), .v (.int .i64 p2), .rp 2 1 (row [c_0]).get 0 0, .rp 1 1 (st1 (nth [.own βc_1 1 0 c_1.length])).get 0 0] [.one βc_1 43 1 (gridC Γc_1 c_1), gridH (α := Int) 3 Γc_1 c_1] (tree_Count_c1_P out βc_1 Γc_1) := by
 unfold tree_Count_c1_F at H
 refine Does.intro Tryd.func68 rfl Tryd.ntmps68 rfl fun w0 I0 tb0 => ?_
 refine Qj (Qc ?_)
 refine Qa (Ql rfl rfl) ?_
 refine Qa (ps_fieldAddrR rfl rfl) ?_
 refine Qa (ps_loadR rfl Qh rfl rfl) ?_
 have c1 := ck_l H; replace H := ck_r H
 refine Qa (ps_sub rfl rfl rfl c1) ?_
 refine Qa (ps_lss rfl rfl rfl) ?_
 refine Qa (Ql rfl rfl) ?_
 refine GoO.guardD rfl rfl rfl rfl (fun h2 => ?_) (fun h2 => ?_)
 replace H := Jt h2 H
 refine Qa (Ql rfl rfl) ?_
 refine Jl rfl rfl rfl ?_
 refine Qa (ps_fieldAddrR rfl rfl) ?_
 refine Jl rfl rfl rfl ?_
 refine Qa (ps_loadR rfl Qh rfl rfl) ?_
 refine Jl rfl rfl rfl ?_
 refine Qa (ps_sub rfl rfl rfl c1) ?_
 refine Jl rfl rfl rfl ?_
 refine Qa (ps_lss rfl rfl rfl) ?_
 refine Qa (ps_pickT rfl rfl rfl) ?_
 refine Qo (Qe ?_)
 refine Jc rfl (fun h3 => ?_) (fun h3 => ?_)
 replace H := Jt h3 H
 refine Qc ?_
 refine Qa (ps_loadR rfl Qh rfl rfl) ?_
 refine Qa (Ql rfl rfl) ?_
 have c4 := ck_l H; replace H := ck_r H
 refine Qa (ps_indexAddr0 rfl rfl c4 rfl) ?_
 refine Qa (Jf rfl Qw Qw (idx_lt c4) rfl rfl) ?_
 refine Qa (Ql rfl rfl) ?_
 have c5 := ck_l H; replace H := ck_r H
 refine Qa (ps_indexAddr0 rfl rfl c5 rfl) ?_
 refine Qa (ps_loadG (α := Int) (xs := c_1) rfl rfl Js Js (idx_lt c4) (idx_lt c5) rfl rfl) ?_
 refine Qa (Ql rfl rfl) ?_
 have c6 := ck_l H; replace H := ck_r H
 refine Qa (ps_add rfl rfl rfl c6) ?_
 refine Qa (ps_indexAddr0 rfl rfl c5 rfl) ?_
 refine GoO.eff1 (ef_storeG (α := Int) (xs := c_1) (v := (((c_1.getD p0.toNat []).getD p1.toNat (0 : Int)) + p2)) rfl rfl rfl rfl Js (upd_row1 (v := (((c_1.getD p0.toNat []).getD p1.toNat (0 : Int)) + p2)) rfl) (idx_lt c4) (idx_lt c5) rfl) ?_
 refine GoO.le (Le.reH Qw (HLe.gridW (α := Int) (i := p0.toNat) (e := p1.toNat) (v := (((c_1.getD p0.toNat []).getD p1.toNat (0 : Int)) + p2)))) ?_
 refine Qo ?_
 obtain rfl := Qf H
 exact GoK.retL (ds := []) Tryd.results68 (Je) (Qd _ _ _ _ _ Qk (Qd _ _ _ _ _ Qk (Qm _))) ⟨Γc_1, rfl, rfl⟩
 replace H := Ju h3 H
 refine Jg ?_
 obtain rfl := Qf H
 exact GoK.retL (ds := []) Tryd.results68 (Je) (Qd _ _ _ _ _ Qk (Qd _ _ _ _ _ Qk (Qm _))) ⟨Γc_1, rfl, rfl⟩
 replace H := Ju h2 H
 refine Ja rfl rfl rfl rfl ?_
 refine Ja rfl rfl rfl rfl ?_
 refine Ja rfl rfl rfl rfl ?_
 refine Ja rfl rfl rfl rfl ?_
 refine Qa (ps_pickF rfl rfl rfl) ?_
 refine Qo (Qe ?_)
 refine GoC.condF rfl ?_
 refine Jg ?_
 obtain rfl := Qf H
 exact GoK.retL (ds := []) Tryd.results68 (Je) (Qd _ _ _ _ _ Qk (Qd _ _ _ _ _ Qk (Qm _))) ⟨Γc_1, rfl, rfl⟩
def tree_Count_B1 (g : Graph) : Nat → (List (List Int)) → Option ((List (List Int))) := fun k19 g13 =>
 ck (k19 < g13.length) <|
 some (g13.set k19 (List.replicate ((g.n - 1).toNat) (0 : Int)))
def tree_Count_B2 (g : Graph) : Nat → (List (List Int)) → Option ((List (List Int))) := fun k30 g24 =>
 if ((g.as.getD k30 El.d).f) ≠ ((g.as.getD k30 El.d).t) then
  (tree_Count_c1_F ((g.as.getD k30 El.d).f) ((g.as.getD k30 El.d).f) 1 g g24).bind fun l34 =>
  ck (l34.length = g24.length) <|
  (tree_Count_c1_F ((g.as.getD k30 El.d).t) ((g.as.getD k30 El.d).t) 1 g l34).bind fun l38 =>
  ck (l38.length = g24.length) <|
  (tree_Count_c1_F ((g.as.getD k30 El.d).f) ((g.as.getD k30 El.d).t) (-1) g l38).bind fun l42 =>
  ck (l42.length = g24.length) <|
  (tree_Count_c1_F ((g.as.getD k30 El.d).t) ((g.as.getD k30 El.d).f) (-1) g l42).bind fun l46 =>
  ck (l46.length = g24.length) <|
  some l46
 else
  some g24
def tree_Count_F (g : Graph) : Option (Int × Int) :=
 (graph_CheckLong_F g).bind fun r2 =>
 if r2 ≠ 0 then
  some (0, r2)
 else
  if 8 < g.n then
   some (0, 2)
  else
   if 30 < ((g.as.length : Nat) : Int) then
    some (0, 2)
   else
    ck (InI (g.n - 1)) <|
    ck (0 ≤ (g.n - 1) ∧ (g.n - 1) ≤ 10000000000) <|
    (forN (tree_Count_B1 g) ((g.n - 1).toNat) 0 (List.replicate ((g.n - 1).toNat) ([] : List Int))).bind fun g18 =>
    (forN (tree_Count_B2 g) g.as.length 0 g18).bind fun g29 =>
    (tree_det_F g29).bind fun r51 =>
    some (r51, 0)
def tree_Count_P (out : Int × Int) (d : D) (H : List HL) : Prop := d = .tp 2 (nth [.v (.int .i64 out.1), .v (.int .i64 out.2)]) ∧ H = []
theorem tree_Count_I (out : Int × Int) : IndepP (tree_Count_P out) := IndepP.of (by rintro _ _ ⟨rfl, rfl⟩; exact ⟨inferInstance, inferInstance⟩)
set_option maxRecDepth 100000 in
set_option maxHeartbeats 4000000 in
theorem tree_Count_spec (g : Graph) {out : Int × Int} (H : tree_Count_F g = some out) : Does Tryd.prog 47 [.ag 2 (nth [.v (.int .i64 g.n), slD g.as])] [] (tree_Count_P out) := by
 unfold tree_Count_F at H
 refine Does.intro Tryd.func47 rfl Tryd.ntmps47 rfl fun w0 I0 tb0 => ?_
 refine Qj (Qc ?_)
 refine Jq (ef_boxAg rfl rfl) (fun β1 => ?_)
 refine Qa (Qi rfl rfl) ?_
 refine Qa (Qi rfl rfl) ?_
 refine Qo (Qe (Qj (Qj (Qc ?_))))
 refine Qa (ps_loadAg rfl Qw Qw Qh rfl rfl) ?_
 have hb := Jd H; clear H
 obtain ⟨r2, e3, H⟩ := hb
 refine GoO.effC (ef_call rfl (Qm _) (Qm _) (graph_CheckLong_spec g e3) (Qq (Lend.agA ⟨⟨Qs, Qp _ _⟩, Qp _ _⟩) (Qz)) rfl (graph_CheckLong_I (r2))) (fun rr HH hp => ?_)
 obtain ⟨rfl, rfl⟩ := hp
 refine Qa (Qi rfl rfl) ?_
 refine Qo (Qe (Qj (Qc ?_)))
 refine Qa (Ql rfl rfl) ?_
 refine Qa (ps_neq rfl rfl rfl) ?_
 refine Qo (Qe ?_)
 refine Jc rfl (fun h4 => ?_) (fun h4 => ?_)
 replace H := Jt h4 H
 refine Qj (Qc ?_)
 refine Qa (Ql rfl rfl) ?_
 refine Qa (Qi rfl rfl) ?_
 refine Qa (Qi rfl rfl) ?_
 refine Qo (Qe ?_)
 obtain rfl := Qf H
 exact Jh (ds := [.v (.int .i64 0), .v (.int .i64 r2)]) Tryd.results47 (Qt (Qv rfl) (Qt (Qv rfl) (Je))) (Qm _) ⟨rfl, rfl⟩
 replace H := Ju h4 H
 refine Jg (Qe (Qj (Qj (Qc ?_))))
 refine Qa (Qu rfl rfl) ?_
 refine Qa (Jf rfl Qw Qw Qh rfl rfl) ?_
 refine Qa (ps_gtr rfl rfl rfl) ?_
 refine Qa (Ql rfl rfl) ?_
 refine GoO.guardE rfl rfl rfl rfl (fun h5 => ?_) (fun h5 => ?_)
 replace H := Ju h5 H
 refine Qa (Qu rfl rfl) ?_
 refine Jl rfl rfl rfl ?_
 refine Qa (Jf rfl Qw Qw Qh rfl rfl) ?_
 refine Jl rfl rfl rfl ?_
 refine Qa (ps_len rfl (by constructor) rfl) ?_
 refine GoO.lenLe (n := g.as.length) (x := .tmp 20) rfl (by constructor) sl_lenLe (fun ml6 => ?_)
 refine Jl rfl rfl rfl ?_
 refine Qa (ps_gtr rfl rfl rfl) ?_
 refine Qa (ps_pickF rfl rfl rfl) ?_
 refine Qo (Qe ?_)
 refine Jc rfl (fun h7 => ?_) (fun h7 => ?_)
 replace H := Jt h7 H
 refine Qj (Qc ?_)
 refine Qa (Qi rfl rfl) ?_
 refine Qa (Qi rfl rfl) ?_
 refine Qo (Qe ?_)
 obtain rfl := Qf H
 exact Jh (ds := [.v (.int .i64 0), .v (.int .i64 2)]) Tryd.results47 (Qt (Qv rfl) (Qt (Qv rfl) (Je))) (Qm _) ⟨rfl, rfl⟩
 replace H := Ju h7 H
 refine Jg (Qe (Qj (Qc ?_)))
 refine Qa (Qu rfl rfl) ?_
 refine Qa (Jf rfl Qw Qw Qh rfl rfl) ?_
 have c8 := ck_l H; replace H := ck_r H
 refine Qa (ps_sub rfl rfl rfl c8) ?_
 have c10 := ck_l H; replace H := ck_r H
 refine Jq (ef_makeZ rfl rfl c10 rfl rfl rfl) (fun β9 => ?_)
 refine GoO.le (Le.reH Qw (HLe.grid0Z (α := Int) (n := (g.n - 1).toNat) (fun _ => DLe.nilOwn))) ?_
 refine GoO.le (Le.grid0 3 Int ((g.n - 1).toNat)) ?_
 refine Jq (ef_alloc rfl) (fun β11 => ?_)
 refine GoO.eff1 (ef_store rfl rfl rfl Qw upd_st1 Qh rfl) ?_
 refine Qo (Qe (Qj (Qj (Qc ?_))))
 refine Qa (Jf rfl Qw Qw Qh rfl rfl) ?_
 refine Qa (ps_len rfl (by constructor) rfl) ?_
 refine GoO.lenLe (n := (g.n - 1).toNat) (x := .tmp 28) rfl (by constructor) own_lenLe (fun ml12 => ?_)
 refine Qa (Ql rfl rfl) ?_
 refine Qo (Qe ?_)
 have hb := Jd H; clear H
 obtain ⟨g18, hl23, HK15⟩ := hb
 refine GoC.blockJ [(1, .ptr β1 2 0 0)] [.one β1 64 2 (st1 (nth [.v (.int .i64 g.n), slD g.as]))] (fun v h => ∃ (Γ14 : Nat → BK), v = [(5, .ptr β11 1 0 0)] ∧ h = [.one β9 43 1 (gridC Γ14 g18), gridH (α := Int) 3 Γ14 g18, .one β11 68 1 (st1 (nth [.own β9 1 0 g18.length]))]) ?_ ?_
 refine GoC.loopJ [(1, _), (29, _)] [.one β1 64 2 (st1 (nth [.v (.int .i64 g.n), slD g.as]))] (fun mQ v h => ∃ (k19 : Nat) (g13 : (List (List Int))) (Γ14 : Nat → BK), (k19 + mQ = (g.n - 1).toNat ∧ forN (tree_Count_B1 g) mQ k19 g13 = some g18) ∧ v = [(30, .v (.int .i64 ((k19 : Nat) : Int))), (5, .ptr β11 1 0 0)] ∧ h = [.one β9 43 1 (gridC Γ14 g13), gridH (α := Int) 3 Γ14 g13, .one β11 68 1 (st1 (nth [.own β9 1 0 g13.length]))]) ((g.n - 1).toNat) ⟨_, _, (fun _ => (⟨0, 0, 0⟩ : BK)), ⟨by omega, hl23⟩, rfl, rfl⟩ (Qg rfl (Qg rfl (Qg rfl (Qg rfl (Qy))))) (Qn _ _ _ _ _ Rem.p2 (Qr _) (Qn _ _ _ _ _ Jk (Qr _) (Qn _ _ _ _ _ Qk (Jj ⟨Qs, Jp (by first | rfl | omega | (simp only [row_len, gridC_len, rowO_len, List.length_cons, List.length_nil, List.length_replicate, List.length_nil] <;> first | rfl | omega))⟩) (Qn _ _ _ _ _ Qk (Jj ⟨⟨Qs, Qb _⟩, Qb _⟩) (Jb _))))) ?_
 rintro m20 v h ⟨k19, g13, Γ14, ⟨hkk19, hF16⟩, rfl, rfl⟩
 refine Qj (Qc ?_)
 refine Qa (ps_lss rfl rfl rfl) ?_
 refine Qo (Qe (Qj ?_))
 refine Jc rfl (fun (hk19 : (k19 : Int) < (((g.n - 1).toNat : Nat) : Int)) => ?_) (fun (hk19 : ¬ (k19 : Int) < (((g.n - 1).toNat : Nat) : Int)) => ?_)
 obtain ⟨m20', rfl⟩ : ∃ x, m20 = x + 1 := ⟨m20 - 1, by omega⟩
 have hb := Jd hF16; clear hF16
 obtain ⟨qrm20, H, hF16⟩ := hb
 have hnk19 : k19 < (g.n - 1).toNat := by omega
 have hIk19 : InI ((k19 : Int) + 1) := inI_len hk19 ml12
 refine Jg (Qe (Qj (GoC.block (Qj (Qc ?_)))))
 refine Qa (Ql rfl rfl) ?_
 refine Qa (Qi rfl rfl) ?_
 refine Qo (Qe ?_)
 refine GoC.drawQ (.q 0 (.q 1 (.q 2 (.q 3 (.q 4 (.one 5 (.q 6 (.one 7 (.done))))))))) 7 follows (by kernel_rfl) ?_
 refine GoQ.qN rfl (by kernel_rfl) (Jf rfl At.p2 At.p2 Qh rfl rfl) ?_
 refine Jo rfl rfl (Ql rfl rfl) ?_
 refine Jo rfl rfl (Qu rfl rfl) ?_
 refine GoQ.qN rfl (by kernel_rfl) (Jf rfl At.p3 At.p3 Qh rfl rfl) ?_
 refine Jo rfl rfl (ps_sub rfl rfl rfl c8) ?_
 refine GoQ.oneB rfl rfl Qs (ef_makeZ rfl rfl c10 rfl rfl rfl) (Qd _ _ _ _ _ Qk (Qd _ _ _ _ _ Qk (Qd _ _ _ _ _ Qk (Qd _ _ _ _ _ Qk (Qm _))))) (fun β21 => ?_)
 refine GoQ.le (Le.reH Qw (HLe.zeros (α := Int) ⟨Qs, Qb _⟩)) ?_
 have c22 := ck_l H; replace H := ck_r H
 refine Jo rfl rfl (ps_indexAddr0N rfl rfl c22 rfl) ?_
 refine GoQ.last1 rfl Qs (ef_store rfl rfl rfl Js (upd_grid (α := Int) (ys := (List.replicate ((g.n - 1).toNat) (0 : Int))) rfl (by first | rfl | omega | (simp only [szl]; omega) | (simp only [szl]; done) | simp)) c22 rfl) (Qd _ _ _ _ _ Jk (Qm _)) ?_
 refine GoP.leD (Le.absorb (α := Int) (B := Γ14) (xs := g13) (ys := (List.replicate ((g.n - 1).toNat) (0 : Int))) (i := k19) Qk Jk rfl (fun _ _ => rfl) (fun _ _ => rfl)) ?_
 refine GoP.done ?_
 refine GoK.blk (Qe (Qc ?_))
 refine Qa (ps_add rfl rfl rfl hIk19) ?_
 refine Qa (Ql rfl rfl) ?_
 refine Qo ?_
 obtain rfl := Qf H
 exact GoK.againJ m20' (by omega) ⟨_, _, (updF Γ14 k19 β21), ⟨by omega, hF16⟩, rfl, rfl⟩ (Qg rfl (Qg rfl (Qg rfl (Qg rfl (Qy))))) (Qn _ _ _ _ _ Jk (Qr _) (Qn _ _ _ _ _ Qk (Qr _) (Qn _ _ _ _ _ Qk (Jj ⟨Qs, Jp (by first | rfl | omega | (simp only [row_len, gridC_len, rowO_len, List.length_set, List.length_replicate] <;> first | rfl | omega))⟩) (Qn _ _ _ _ _ Qk (Jj ⟨⟨Qs, Qb _⟩, Qb _⟩) (Jb _)))))
 obtain rfl : m20 = 0 := by omega
 refine GoC.exit rfl ?_
 cases hF16
 exact Jr ⟨Γ14, rfl, rfl⟩ (Qg rfl (Qg rfl (Qy))) (Qn _ _ _ _ _ Qk (Qr _) (Qn _ _ _ _ _ Qk (Qr _) (Qn _ _ _ _ _ Qk (Jj ⟨Qs, Jp (by first | rfl | omega | (simp only [row_len, gridC_len, rowO_len] <;> first | rfl | omega))⟩) (Qn _ _ _ _ _ Qk (Jj ⟨⟨Qs, Qb _⟩, Qb _⟩) (Jb _)))))
 rintro v h ⟨Γ14, rfl, rfl⟩
 have H := HK15; clear HK15
 refine Qe (Qj (Qc ?_))
 refine Qa (ps_makeFunc rfl rfl rfl) ?_
 refine Qa (Qi rfl rfl) ?_
 refine Qo (Qe (Qj (Qj (Qc ?_))))
 refine Qa (Qu rfl rfl) ?_
 refine Qa (Jf rfl At.p3 At.p3 Qh rfl rfl) ?_
 refine Qa (ps_len rfl (by constructor) rfl) ?_
 refine Qa (Ql rfl rfl) ?_
 refine Qo (Qe ?_)
 have hb := Jd H; clear H
 obtain ⟨g29, hl50, HK26⟩ := hb
 refine GoC.blockJ [] [.one β1 64 2 (st1 (nth [.v (.int .i64 g.n), slD g.as]))] (fun v h => ∃ (Γ25 : Nat → BK), v = [(5, .ptr β11 1 0 0)] ∧ h = [.one β9 43 1 (gridC Γ25 g29), gridH (α := Int) 3 Γ25 g29, .one β11 68 1 (st1 (nth [.own β9 1 0 g29.length]))]) ?_ ?_
 refine GoC.loopJ [(43, _), (44, _)] [.one β1 64 2 (st1 (nth [.v (.int .i64 g.n), slD g.as]))] (fun mQ v h => ∃ (k30 : Nat) (g24 : (List (List Int))) (Γ25 : Nat → BK), (k30 + mQ = g.as.length ∧ forN (tree_Count_B2 g) mQ k30 g24 = some g29) ∧ v = [(45, .v (.int .i64 ((k30 : Nat) : Int))), (5, .ptr β11 1 0 0), (7, .fn 68 2 (nth [.ptr β1 2 0 0, .ptr β11 1 0 0]))] ∧ h = [.one β9 43 1 (gridC Γ25 g24), gridH (α := Int) 3 Γ25 g24, .one β11 68 1 (st1 (nth [.own β9 1 0 g24.length]))]) g.as.length ⟨_, _, Γ14, ⟨by omega, hl50⟩, rfl, rfl⟩ (Qg rfl (Qg rfl (Qg rfl (Qg rfl (Qg rfl (Qy)))))) (Qn _ _ _ _ _ Qk (Qr _) (Qn _ _ _ _ _ Qk (Qr _) (Qn _ _ _ _ _ Qk (Jj ⟨Qs, Jp (by first | rfl | omega | (simp only [row_len, gridC_len, rowO_len] <;> first | rfl | omega))⟩) (Qn _ _ _ _ _ Qk (Jj ⟨⟨Qs, Qb _⟩, Qb _⟩) (Jb _))))) ?_
 rintro m31 v h ⟨k30, g24, Γ25, ⟨hkk30, hF27⟩, rfl, rfl⟩
 refine Qj (Qc ?_)
 refine Qa (ps_lss rfl rfl rfl) ?_
 refine Qo (Qe (Qj ?_))
 refine Jc rfl (fun (hk30 : (k30 : Int) < ((g.as.length : Nat) : Int)) => ?_) (fun (hk30 : ¬ (k30 : Int) < ((g.as.length : Nat) : Int)) => ?_)
 obtain ⟨m31', rfl⟩ : ∃ x, m31 = x + 1 := ⟨m31 - 1, by omega⟩
 have hb := Jd hF27; clear hF27
 obtain ⟨qrm31, H, hF27⟩ := hb
 have hnk30 : k30 < g.as.length := by omega
 have hIk30 : InI ((k30 : Int) + 1) := inI_len hk30 ml6
 refine Jg (Qe (Qj (GoC.block (Qj (Qc ?_)))))
 refine Qa (ps_indexAddrRN rfl rfl hnk30 rfl) ?_
 refine Qa (ps_loadAgR rfl hnk30 rfl rfl) ?_
 refine Jq (ef_alloc rfl) (fun β32 => ?_)
 refine GoO.eff1 (ef_storeAg rfl rfl Qw upd_whole Qh rfl) ?_
 refine Qo (Qe (Qj (Qc ?_)))
 refine Qa (Qu rfl rfl) ?_
 refine Qa (Jf rfl Qw Qw Qh rfl rfl) ?_
 refine Qa (Qu rfl rfl) ?_
 refine Qa (Jf rfl Qw Qw Qh rfl rfl) ?_
 refine Qa (ps_neq rfl rfl rfl) ?_
 refine Qo (Qe ?_)
 refine Jc rfl (fun h33 => ?_) (fun h33 => ?_)
 replace H := Jt h33 H
 refine Qj (Qc ?_)
 refine Qa (Ql rfl rfl) ?_
 refine Qa (Qu rfl rfl) ?_
 refine Qa (Jf rfl Qw Qw Qh rfl rfl) ?_
 refine Qa (Qu rfl rfl) ?_
 refine Qa (Jf rfl Qw Qw Qh rfl rfl) ?_
 have hb := Jd H; clear H
 obtain ⟨l34, e35, H⟩ := hb
 have c36 := ck_l H; replace H := ck_r H
 refine GoO.effC (ef_callv rfl rfl rfl (Qd _ _ _ _ _ Jk (Qd _ _ _ _ _ Jk (Qm _))) (Qd _ _ _ _ _ Rem.p2 (Qd _ _ _ _ _ Jk (Qm _))) (tree_Count_c1_spec ((g.as.getD k30 El.d).f) ((g.as.getD k30 El.d).f) 1 g g24 β9 Γ25 e35) (Qq (Qp _ _) (Qq (Qp _ _) (Qq (Qp _ _) (Qq (Lend.box (ds := [.v (.int .i64 g.n), slD g.as]) Qw rfl (by decide) ⟨⟨Qs, rfl⟩, rfl⟩ (Qq (Qp _ _) (Qq (Qp _ _) (Qz))) ⟨⟨Qs, rfl⟩, rfl⟩ rfl) (Qq (Lend.box (ds := [.own β9 1 0 g24.length]) Js rfl (by decide) ⟨Qs, rfl⟩ (Qq (Qp _ _) (Qz)) ⟨Qs, rfl⟩ rfl) (Qz)))))) rfl (tree_Count_c1_I (l34) β9 Γ25)) (fun rr HH hp => ?_)
 obtain ⟨Γ37, rfl, rfl⟩ := hp
 refine Qo (Qe (Qj (Qc ?_)))
 refine Qa (Ql rfl rfl) ?_
 refine Qa (Qu rfl rfl) ?_
 refine Qa (Jf rfl At.p2 At.p2 Qh rfl rfl) ?_
 refine Qa (Qu rfl rfl) ?_
 refine Qa (Jf rfl At.p2 At.p2 Qh rfl rfl) ?_
 have hb := Jd H; clear H
 obtain ⟨l38, e39, H⟩ := hb
 have c40 := ck_l H; replace H := ck_r H
 refine GoO.effC (ef_callv rfl rfl rfl (Qd _ _ _ _ _ Qk (Qd _ _ _ _ _ Qk (Qm _))) (Qd _ _ _ _ _ Rem.p2 (Qd _ _ _ _ _ Jk (Qm _))) (tree_Count_c1_spec ((g.as.getD k30 El.d).t) ((g.as.getD k30 El.d).t) 1 g l34 β9 Γ37 e39) (Qq (Qp _ _) (Qq (Qp _ _) (Qq (Qp _ _) (Qq (Lend.box (ds := [.v (.int .i64 g.n), slD g.as]) Qw rfl (by decide) ⟨⟨Qs, rfl⟩, rfl⟩ (Qq (Qp _ _) (Qq (Qp _ _) (Qz))) ⟨⟨Qs, rfl⟩, rfl⟩ rfl) (Qq (Lend.box (ds := [.own β9 1 0 g24.length]) Js rfl (by decide) ⟨Qs, rfl⟩ (Qq (Lend.ofLe (Jp (by first | rfl | omega | (simp only [szl, c36] <;> first | rfl | omega)))) (Qz)) ⟨Qs, rfl⟩ rfl) (Qz)))))) rfl (tree_Count_c1_I (l38) β9 Γ37)) (fun rr HH hp => ?_)
 obtain ⟨Γ41, rfl, rfl⟩ := hp
 refine Qo (Qe (Qj (Qc ?_)))
 refine Qa (Ql rfl rfl) ?_
 refine Qa (Qu rfl rfl) ?_
 refine Qa (Jf rfl At.p2 At.p2 Qh rfl rfl) ?_
 refine Qa (Qu rfl rfl) ?_
 refine Qa (Jf rfl At.p2 At.p2 Qh rfl rfl) ?_
 have hb := Jd H; clear H
 obtain ⟨l42, e43, H⟩ := hb
 have c44 := ck_l H; replace H := ck_r H
 refine GoO.effC (ef_callv rfl rfl rfl (Qd _ _ _ _ _ Qk (Qd _ _ _ _ _ Qk (Qm _))) (Qd _ _ _ _ _ Rem.p2 (Qd _ _ _ _ _ Jk (Qm _))) (tree_Count_c1_spec ((g.as.getD k30 El.d).f) ((g.as.getD k30 El.d).t) (-1) g l38 β9 Γ41 e43) (Qq (Qp _ _) (Qq (Qp _ _) (Qq (Qp _ _) (Qq (Lend.box (ds := [.v (.int .i64 g.n), slD g.as]) Qw rfl (by decide) ⟨⟨Qs, rfl⟩, rfl⟩ (Qq (Qp _ _) (Qq (Qp _ _) (Qz))) ⟨⟨Qs, rfl⟩, rfl⟩ rfl) (Qq (Lend.box (ds := [.own β9 1 0 g24.length]) Js rfl (by decide) ⟨Qs, rfl⟩ (Qq (Lend.ofLe (Jp (by first | rfl | omega | (simp only [szl, c36, c40] <;> first | rfl | omega)))) (Qz)) ⟨Qs, rfl⟩ rfl) (Qz)))))) rfl (tree_Count_c1_I (l42) β9 Γ41)) (fun rr HH hp => ?_)
 obtain ⟨Γ45, rfl, rfl⟩ := hp
 refine Qo (Qe (Qc ?_))
 refine Qa (Ql rfl rfl) ?_
 refine Qa (Qu rfl rfl) ?_
 refine Qa (Jf rfl At.p2 At.p2 Qh rfl rfl) ?_
 refine Qa (Qu rfl rfl) ?_
 refine Qa (Jf rfl At.p2 At.p2 Qh rfl rfl) ?_
 have hb := Jd H; clear H
 obtain ⟨l46, e47, H⟩ := hb
 have c48 := ck_l H; replace H := ck_r H
 refine GoO.effC (ef_callv rfl rfl rfl (Qd _ _ _ _ _ Qk (Qd _ _ _ _ _ Qk (Qm _))) (Qd _ _ _ _ _ Rem.p2 (Qd _ _ _ _ _ Jk (Qm _))) (tree_Count_c1_spec ((g.as.getD k30 El.d).t) ((g.as.getD k30 El.d).f) (-1) g l42 β9 Γ45 e47) (Qq (Qp _ _) (Qq (Qp _ _) (Qq (Qp _ _) (Qq (Lend.box (ds := [.v (.int .i64 g.n), slD g.as]) Qw rfl (by decide) ⟨⟨Qs, rfl⟩, rfl⟩ (Qq (Qp _ _) (Qq (Qp _ _) (Qz))) ⟨⟨Qs, rfl⟩, rfl⟩ rfl) (Qq (Lend.box (ds := [.own β9 1 0 g24.length]) Js rfl (by decide) ⟨Qs, rfl⟩ (Qq (Lend.ofLe (Jp (by first | rfl | omega | (simp only [szl, c36, c40, c44] <;> first | rfl | omega)))) (Qz)) ⟨Qs, rfl⟩ rfl) (Qz)))))) rfl (tree_Count_c1_I (l46) β9 Γ45)) (fun rr HH hp => ?_)
 obtain ⟨Γ49, rfl, rfl⟩ := hp
 refine Qo (GoK.blk (Qe (Qc ?_)))
 refine Qa (ps_add rfl rfl rfl hIk30) ?_
 refine Qa (Ql rfl rfl) ?_
 refine Qo ?_
 obtain rfl := Qf H
 exact GoK.againJ m31' (by omega) ⟨_, _, Γ49, ⟨by omega, hF27⟩, rfl, rfl⟩ (Qg rfl (Qg rfl (Qg rfl (Qg rfl (Qg rfl (Qy)))))) (Qn _ _ _ _ _ Qk (Qr _) (Qn _ _ _ _ _ Qk (Qr _) (Qn _ _ _ _ _ Jk (Jj ⟨Qs, Jp (by first | rfl | omega | (simp only [row_len, gridC_len, rowO_len, c36, c40, c44, c48] <;> first | rfl | omega))⟩) (Qn _ _ _ _ _ Jk (Jj ⟨⟨Qs, Qb _⟩, Qb _⟩) (Jb _)))))
 replace H := Ju h33 H
 refine Jg (GoK.blk (Qe (Qc ?_)))
 refine Qa (ps_add rfl rfl rfl hIk30) ?_
 refine Qa (Ql rfl rfl) ?_
 refine Qo ?_
 obtain rfl := Qf H
 exact GoK.againJ m31' (by omega) ⟨_, _, Γ25, ⟨by omega, hF27⟩, rfl, rfl⟩ (Qg rfl (Qg rfl (Qg rfl (Qg rfl (Qg rfl (Qy)))))) (Qn _ _ _ _ _ Jk (Qr _) (Qn _ _ _ _ _ Jk (Qr _) (Qn _ _ _ _ _ Jk (Jj ⟨Qs, Qb _⟩) (Qn _ _ _ _ _ Jk (Jj ⟨⟨Qs, Qb _⟩, Qb _⟩) (Jb _)))))
 obtain rfl : m31 = 0 := by omega
 refine GoC.exit rfl ?_
 cases hF27
 exact Jr ⟨Γ25, rfl, rfl⟩ (Qg rfl (Qy)) (Qn _ _ _ _ _ Qk (Qr _) (Qn _ _ _ _ _ Qk (Qr _) (Qn _ _ _ _ _ Qk (Jj ⟨Qs, Jp (by first | rfl | omega | (simp only [row_len, gridC_len, rowO_len] <;> first | rfl | omega))⟩) (Qn _ _ _ _ _ Qk (Jj ⟨⟨Qs, Qb _⟩, Qb _⟩) (Jb _)))))
 rintro v h ⟨Γ25, rfl, rfl⟩
 have H := HK26; clear HK26
 refine Qe (Qj (Qc ?_))
 refine Qa (Jf rfl At.p2 At.p2 Qh rfl rfl) ?_
 have hb := Jd H; clear H
 obtain ⟨r51, e52, H⟩ := hb
 refine GoO.effC (ef_call rfl (Qd _ _ _ _ _ Qk (Qd _ _ _ _ _ Qk (Qm _))) (Qm _) (tree_det_spec g29 β9 Γ25 e52) (Qq (Qp _ _) (Qz)) rfl (tree_det_I (r51) β9 Γ25)) (fun rr HH hp => ?_)
 obtain ⟨rfl, rfl⟩ := hp
 refine Qa (Qi rfl rfl) ?_
 refine Qa (Qi rfl rfl) ?_
 refine Qo (Qe ?_)
 obtain rfl := Qf H
 exact Jh (ds := [.v (.int .i64 r51), .v (.int .i64 0)]) Tryd.results47 (Qt (Qv rfl) (Qt (Qv rfl) (Je))) (Qm _) ⟨rfl, rfl⟩
 replace H := Jt h5 H
 refine Ja rfl rfl rfl rfl ?_
 refine Ja rfl rfl rfl rfl ?_
 refine Ja rfl rfl rfl rfl ?_
 refine Qa (ps_pickT rfl rfl rfl) ?_
 refine Qo (Qe ?_)
 refine GoC.condT rfl ?_
 refine Qj (Qc ?_)
 refine Qa (Qi rfl rfl) ?_
 refine Qa (Qi rfl rfl) ?_
 refine Qo (Qe ?_)
 obtain rfl := Qf H
 exact Jh (ds := [.v (.int .i64 0), .v (.int .i64 2)]) Tryd.results47 (Qt (Qv rfl) (Qt (Qv rfl) (Je))) (Qm _) ⟨rfl, rfl⟩
end Go.Proofs.YthchdnemndolbaaDoor
