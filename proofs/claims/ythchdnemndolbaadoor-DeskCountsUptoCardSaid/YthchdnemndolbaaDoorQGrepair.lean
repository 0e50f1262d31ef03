import Derived.Test.YthchdnemndolbaaDoorQTys
import Derived.Test.YthchdnemndolbaaDoorQDat
import Derived.Test.YthchdnemndolbaaDoorQGcut
import Derived.Test.YthchdnemndolbaaDoorQGflow
import Derived.Test.YthchdnemndolbaaDoorQGgraph
import Derived.Test.YthchdnemndolbaaDoorQGmost
import Derived.Test.YthchdnemndolbaaDoorQGslices
namespace Go.Proofs.YthchdnemndolbaaDoor
open Go Go.Proofs.YthchdnemndolbaaDoor.Sx
set_option linter.unusedVariables false
set_option linter.unusedSimpArgs false
def repair_Check_F (n : Net) (f : (List Int)) : Option (Int) :=
 (flow_Value_F n f).bind fun (r2, r3) =>
 if r3 ≠ 0 then
  some r3
 else
  (cut_Least_F n).bind fun (r6, r7, r8) =>
  if r2 ≠ r7 then
   some 9
  else
   some 0
def repair_Check_P (out : Int) (d : D) (H : List HL) : Prop := d = .v (.int .i64 out) ∧ H = []
theorem repair_Check_I (out : Int) : IndepP (repair_Check_P out) := IndepP.of (by rintro _ _ ⟨rfl, rfl⟩; exact ⟨inferInstance, inferInstance⟩)
set_option maxRecDepth 100000 in
set_option maxHeartbeats 4000000 in
theorem repair_Check_spec (n : Net) (f : (List Int)) {out : Int} (H : repair_Check_F n f = some out) : Does Tryd.prog 76 [.ag 4 (nth [.v (.int .i64 n.n), .v (.int .i64 n.s), .v (.int .i64 n.t), slD n.as]), slD f] [] (repair_Check_P out) := by
 unfold repair_Check_F at H
 refine Does.intro Tryd.func76 rfl Tryd.ntmps76 rfl fun w0 I0 tb0 => ?_
 refine Qj (Qc ?_)
 refine Jq (ef_boxAg rfl rfl) (fun β1 => ?_)
 refine Qa (Qi rfl rfl) ?_
 refine Qo (Qe (Qj (Qc ?_)))
 refine Qa (ps_loadAg rfl Qw Qw Qh rfl rfl) ?_
 refine Qa (Ql rfl rfl) ?_
 have hb := Jd H; clear H
 obtain ⟨⟨r2, r3⟩, e4, H⟩ := hb
 refine GoO.effC (ef_call rfl (Qm _) (Qm _) (flow_Value_spec n f e4) (Qq (Lend.agA ⟨⟨⟨⟨Qs, Qp _ _⟩, Qp _ _⟩, Qp _ _⟩, Qp _ _⟩) (Qq (Qp _ _) (Qz))) rfl (flow_Value_I (r2, r3))) (fun rr HH hp => ?_)
 obtain ⟨rfl, rfl⟩ := hp
 refine Qa (Ql rfl rfl) ?_
 refine Qa (Ji rfl rfl rfl) ?_
 refine Qa (Ji rfl rfl rfl) ?_
 refine Qa (Qi rfl rfl) ?_
 refine Qa (Qi rfl rfl) ?_
 refine Qo (Qe (Qj (Qj (Qc ?_))))
 refine Qa (Ql rfl rfl) ?_
 refine Qa (ps_neq rfl rfl rfl) ?_
 refine Qo (Qe ?_)
 refine Jc rfl (fun h5 => ?_) (fun h5 => ?_)
 replace H := Jt h5 H
 refine Qj (Qc ?_)
 refine Qa (Ql rfl rfl) ?_
 refine Qa (Qi rfl rfl) ?_
 refine Qo (Qe ?_)
 obtain rfl := Qf H
 exact Jh (ds := [.v (.int .i64 r3)]) Tryd.results76 (Qt (Qv rfl) (Je)) (Qm _) ⟨rfl, rfl⟩
 replace H := Ju h5 H
 refine Jg (Qe (Qj (Qj (Qc ?_))))
 refine Qa (ps_loadAg rfl Qw Qw Qh rfl rfl) ?_
 have hb := Jd H; clear H
 obtain ⟨⟨r6, r7, r8⟩, e9, H⟩ := hb
 refine GoO.effC (ef_call rfl (Qm _) (Qm _) (cut_Least_spec n e9) (Qq (Lend.agA ⟨⟨⟨⟨Qs, Qp _ _⟩, Qp _ _⟩, Qp _ _⟩, Qp _ _⟩) (Qz)) rfl (cut_Least_I (r6, r7, r8))) (fun rr HH hp => ?_)
 obtain ⟨rfl, rfl⟩ := hp
 refine Qa (Ql rfl rfl) ?_
 refine Qa (Ji rfl rfl rfl) ?_
 refine Qa (Ji rfl rfl rfl) ?_
 refine Qa (Ji rfl rfl rfl) ?_
 refine Qa (Qi rfl rfl) ?_
 refine Qa (Qi rfl rfl) ?_
 refine Qa (Qi rfl rfl) ?_
 refine Qo (Qe (Qj (Qc ?_)))
 refine Qa (Ql rfl rfl) ?_
 refine Qa (Ql rfl rfl) ?_
 refine Qa (ps_neq rfl rfl rfl) ?_
 refine Qo (Qe ?_)
 refine Jc rfl (fun h10 => ?_) (fun h10 => ?_)
 replace H := Jt h10 H
 refine Qj (Qc ?_)
 refine Qa (Qi rfl rfl) ?_
 refine Qo (Qe ?_)
 obtain rfl := Qf H
 exact Jh (ds := [.v (.int .i64 9)]) Tryd.results76 (Qt (Qv rfl) (Je)) (Qm _) ⟨rfl, rfl⟩
 replace H := Ju h10 H
 refine Jg (Qe (Qj (Qc ?_)))
 refine Qa (Qi rfl rfl) ?_
 refine Qo (Qe ?_)
 obtain rfl := Qf H
 exact Jh (ds := [.v (.int .i64 0)]) Tryd.results76 (Qt (Qv rfl) (Je)) (Qm _) ⟨rfl, rfl⟩
def repair_on_F (n : Net) (f : (List Int)) : Option (Net × (List Int) × Int × Int) :=
 (slices_Clone_Arc_F n.as).bind fun r3 =>
 (most_More_F (⟨n.n, n.s, n.t, r3⟩ : Net) f).bind fun (r6, r8, r9) =>
 some ((⟨n.n, n.s, n.t, r3⟩ : Net), r6, r8, r9)
def repair_on_P (out : Net × (List Int) × Int × Int) (d : D) (H : List HL) : Prop := ∃ β1 β2 : BK, d = .tp 4 (nth [.ag 4 (nth [.v (.int .i64 out.1.n), .v (.int .i64 out.1.s), .v (.int .i64 out.1.t), .own β1 3 0 out.1.as.length]), .own β2 1 0 out.2.1.length, .v (.int .i64 out.2.2.1), .v (.int .i64 out.2.2.2)]) ∧ H = [.one β1 83 3 (row out.1.as), .one β2 3 1 (row out.2.1)]
theorem repair_on_I (out : Net × (List Int) × Int × Int) : IndepP (repair_on_P out) := IndepP.of (by rintro _ _ ⟨β1, β2, rfl, rfl⟩; exact ⟨inferInstance, inferInstance⟩)
set_option maxRecDepth 100000 in
set_option maxHeartbeats 4000000 in
theorem repair_on_spec (n : Net) (f : (List Int)) {out : Net × (List Int) × Int × Int} (H : repair_on_F n f = some out) : Does Tryd.prog 77 [.ag 4 (nth [.v (.int .i64 n.n), .v (.int .i64 n.s), .v (.int .i64 n.t), slD n.as]), slD f] [] (repair_on_P out) := by
 unfold repair_on_F at H
 refine Does.intro Tryd.func77 rfl Tryd.ntmps77 rfl fun w0 I0 tb0 => ?_
 refine Qj (Qc ?_)
 refine Jq (ef_boxAg rfl rfl) (fun β1 => ?_)
 refine Jq (ef_alloc rfl) (fun β2 => ?_)
 refine Qa (Qi rfl rfl) ?_
 refine Qa (Qi rfl rfl) ?_
 refine Qa (Qi rfl rfl) ?_
 refine Qo (Qe (Qj (Qc ?_)))
 refine Qa (Qu rfl rfl) ?_
 refine Qa (Jf rfl Js Js Qh rfl rfl) ?_
 have hb := Jd H; clear H
 obtain ⟨r3, e5, H⟩ := hb
 refine GoO.effC (ef_call rfl (Qm _) (Qm _) (slices_Clone_Arc_spec n.as e5) (Qq (Qp _ _) (Qz)) rfl (slices_Clone_Arc_I (r3))) (fun rr HH hp => ?_)
 obtain ⟨β4, rfl, rfl⟩ := hp
 refine Qa (Qu rfl rfl) ?_
 refine GoO.eff1 (ef_store rfl rfl rfl At.p2 upd_st1 Qh rfl) ?_
 refine Qo (Qe (Qj (Qc ?_)))
 refine Qa (ps_loadAg rfl At.p2 At.p2 Qh rfl rfl) ?_
 refine Qa (Ql rfl rfl) ?_
 have hb := Jd H; clear H
 obtain ⟨⟨r6, r8, r9⟩, e10, H⟩ := hb
 refine GoO.effC (ef_call rfl (Qm _) (Qd _ _ _ _ _ Qk (Qm _)) (most_More_spec (⟨n.n, n.s, n.t, r3⟩ : Net) f e10) (Qq (Lend.agA ⟨⟨⟨⟨Qs, Qp _ _⟩, Qp _ _⟩, Qp _ _⟩, Lend.all' Qw (by first | rfl | omega | (simp only [szl] <;> first | rfl | omega)) rfl⟩) (Qq (Qp _ _) (Qz))) rfl (most_More_I (r6, r8, r9))) (fun rr HH hp => ?_)
 obtain ⟨β7, rfl, rfl⟩ := hp
 refine Qa (Ql rfl rfl) ?_
 refine Qa (Ji rfl rfl rfl) ?_
 refine Qa (Ji rfl rfl rfl) ?_
 refine Qa (Ji rfl rfl rfl) ?_
 refine Qa (Qi rfl rfl) ?_
 refine Qa (Qi rfl rfl) ?_
 refine Qa (Qi rfl rfl) ?_
 refine Qo (Qe (Qj (Qc ?_)))
 refine Qa (ps_loadAg rfl At.p3 At.p3 Qh rfl rfl) ?_
 refine Qa (Ql rfl rfl) ?_
 refine Qa (Ql rfl rfl) ?_
 refine Qa (Ql rfl rfl) ?_
 refine GoO.eff1 (ef_storeAg rfl rfl At.p2 upd_whole Qh rfl) ?_
 refine Qa (Qi rfl rfl) ?_
 refine Qa (Qi rfl rfl) ?_
 refine Qa (Qi rfl rfl) ?_
 refine Qo (Qe ?_)
 obtain rfl := Qf H
 exact Jh (ds := [.ag 4 (nth [.v (.int .i64 n.n), .v (.int .i64 n.s), .v (.int .i64 n.t), .own β4 3 0 r3.length]), .own β7 1 0 r6.length, .v (.int .i64 r8), .v (.int .i64 r9)]) Tryd.results77 (Qt (ResD.le (ResD.cellAg rfl At.p2 Qh rfl) (by exact DLe.ag ⟨⟨⟨⟨Qs, Qb _⟩, Qb _⟩, Qb _⟩, Qb _⟩)) (Qt (Qv rfl) (Qt (Qv rfl) (Qt (Qv rfl) (Je))))) (Qd _ _ _ _ _ Jk (Qd _ _ _ _ _ Qk (Qm _))) ⟨β4, β7, rfl, rfl⟩
def repair_Add_F (n : Net) (f : (List Int)) (a : Arc) : Option (Net × (List Int) × Int × Int) :=
 (repair_Check_F n f).bind fun r4 =>
 if r4 ≠ 0 then
  some ((⟨0, 0, 0, []⟩ : Net), [], 0, r4)
 else
  (slices_Clone_Arc_F n.as).bind fun r7 =>
  ck (r7.length + 1 ≤ 5864062014805) <|
  (graph_CheckNet_F (⟨n.n, n.s, n.t, (r7 ++ ([a] : List Arc))⟩ : Net)).bind fun r21 =>
  if r21 ≠ 0 then
   some ((⟨0, 0, 0, []⟩ : Net), [], 0, r21)
  else
   (slices_Clone_int_F f).bind fun r24 =>
   ck (r24.length + 1 ≤ 17592186044416) <|
   (repair_on_F (⟨n.n, n.s, n.t, (r7 ++ ([a] : List Arc))⟩ : Net) (r24 ++ ([0] : List Int))).bind fun (r30, r32, r34, r35) =>
   some (r30, r32, r34, r35)
def repair_Add_P (out : Net × (List Int) × Int × Int) (d : D) (H : List HL) : Prop := ∃ β1 β2 : BK, d = .tp 4 (nth [.ag 4 (nth [.v (.int .i64 out.1.n), .v (.int .i64 out.1.s), .v (.int .i64 out.1.t), .own β1 3 0 out.1.as.length]), .own β2 1 0 out.2.1.length, .v (.int .i64 out.2.2.1), .v (.int .i64 out.2.2.2)]) ∧ H = [.one β1 83 3 (row out.1.as), .one β2 3 1 (row out.2.1)]
set_option maxRecDepth 100000 in
set_option maxHeartbeats 4000000 in
theorem repair_Add_spec (n : Net) (f : (List Int)) (a : Arc) {out : Net × (List Int) × Int × Int} (H : repair_Add_F n f a = some out) : Does Tryd.prog 57 [.ag 4 (nth [.v (.int .i64 n.n), .v (.int .i64 n.s), .v (.int .i64 n.t), slD n.as]), slD f, .ag 3 (nth [.v (.int .i64 a.f), .v (.int .i64 a.t), .v (.int .i64 a.c)])] [] (repair_Add_P out) := by
 unfold repair_Add_F at H
 refine Does.intro Tryd.func57 rfl Tryd.ntmps57 rfl fun w0 I0 tb0 => ?_
 refine Qj (Qc ?_)
 refine Jq (ef_boxAg rfl rfl) (fun β1 => ?_)
 refine Jq (ef_boxAg rfl rfl) (fun β2 => ?_)
 refine Jq (ef_alloc rfl) (fun β3 => ?_)
 refine Qa (Qi rfl rfl) ?_
 refine Qa (Qi rfl rfl) ?_
 refine Qa (Qi rfl rfl) ?_
 refine Qo (Qe (Qj (Qj (Qc ?_))))
 refine Qa (ps_loadAg rfl At.p2 At.p2 Qh rfl rfl) ?_
 refine Qa (Ql rfl rfl) ?_
 have hb := Jd H; clear H
 obtain ⟨r4, e5, H⟩ := hb
 refine GoO.effC (ef_call rfl (Qm _) (Qm _) (repair_Check_spec n f e5) (Qq (Lend.agA ⟨⟨⟨⟨Qs, Qp _ _⟩, Qp _ _⟩, Qp _ _⟩, Qp _ _⟩) (Qq (Qp _ _) (Qz))) rfl (repair_Check_I (r4))) (fun rr HH hp => ?_)
 obtain ⟨rfl, rfl⟩ := hp
 refine Qa (Qi rfl rfl) ?_
 refine Qo (Qe (Qj (Qc ?_)))
 refine Qa (Ql rfl rfl) ?_
 refine Qa (ps_neq rfl rfl rfl) ?_
 refine Qo (Qe ?_)
 refine Jc rfl (fun h6 => ?_) (fun h6 => ?_)
 replace H := Jt h6 H
 refine Qj (Qc ?_)
 refine Qa (ps_build (Parts.nil _) rfl) ?_
 refine Qa (Ql rfl rfl) ?_
 refine GoO.eff1 (ef_storeAg rfl rfl Qw upd_whole Qh rfl) ?_
 refine Qa (Qi rfl rfl) ?_
 refine Qa (Qi rfl rfl) ?_
 refine Qa (Qi rfl rfl) ?_
 refine Qo (Qe ?_)
 obtain rfl := Qf H
 refine GoC.le (le_row0 83 3 (row ([] : List Arc)) rfl) ?_
 refine GoC.le (le_row0 3 1 (row ([] : List Int)) rfl) ?_
 exact Jh (ds := [.ag 4 (nth [.v (.int .i64 0), .v (.int .i64 0), .v (.int .i64 0), .own ⟨0, 0, 0⟩ 3 0 0]), .own ⟨0, 0, 0⟩ 1 0 0, .v (.int .i64 0), .v (.int .i64 r4)]) Tryd.results57 (Qt (ResD.le (ResD.cellAg rfl At.p2 Qh rfl) (by exact DLe.ag ⟨⟨⟨⟨Qs, Qb _⟩, Qb _⟩, Qb _⟩, DLe.nilOwn⟩)) (Qt (ResD.le (Qv rfl) (by exact DLe.nilOwn)) (Qt (Qv rfl) (Qt (Qv rfl) (Je))))) (Qd _ _ _ _ _ Jk (Qd _ _ _ _ _ Qk (Qm _))) ⟨⟨0, 0, 0⟩, ⟨0, 0, 0⟩, rfl, rfl⟩
 replace H := Ju h6 H
 refine Jg (Qe (Qj ?_))
 refine GoC.drawP (.q 0 (.q 3 (.two 1 4 (.two 2 4 (.one 4 (.one 5 (.q 6 (.one 7 (.done))))) (.one 2 (.one 5 (.q 6 (.one 7 (.done)))))) (.one 1 (.one 2 (.one 5 (.q 6 (.one 7 (.done))))))))) [(5, _, _, _)] follows (by kernel_rfl) (Qd _ _ _ _ _ Jk (Qm _)) ?_
 refine Qx rfl (Qu rfl rfl) ?_
 refine Qx rfl (ps_loadAg rfl Js Qw Qh rfl rfl) ?_
 have hb := Jd H; clear H
 obtain ⟨r7, e9, H⟩ := hb
 have c12 := ck_l H; replace H := ck_r H
 apply GoP.fork3
 exact rfl
 exact rfl
 exact Qs
 exact Qs
 exact Eff.pure (H1 := [.one β3 42 4 (st1 (nth [.v (.int .i64 0), .v (.int .i64 0), .v (.int .i64 0), .v (.slice none 0 0)])), .one β2 83 3 (st1 (nth [.v (.int .i64 a.f), .v (.int .i64 a.t), .v (.int .i64 a.c)])), .one β1 42 4 (st1 (nth [.v (.int .i64 n.n), .v (.int .i64 n.s), .v (.int .i64 n.t), slD n.as]))]) (Jf rfl At.p2 At.p2 Qh rfl rfl)
 exact ef_buildSlice (row ([a] : List Arc)) rfl (Jn _ _ _ _ _ _ _ _ ⟨rfl, rfl⟩ (Part.ag _ _ rfl) rfl rfl (Parts.nil _)) rfl rfl rfl rfl
 exact (Qd _ _ _ _ _ Jk (Qm _))
 exact (Qd _ _ _ _ _ Jk (Qm _))
 intro hQ
 rintro _ rfl
 apply GoP.fork3
 exact rfl
 exact rfl
 exact Qs
 exact Qs
 exact ef_call rfl (Qm _) (Qm _) (slices_Clone_Arc_spec n.as e9) (Qq (Qp _ _) (Qz)) rfl (slices_Clone_Arc_I (r7))
 exact ef_buildSlice (row ([a] : List Arc)) rfl (Jn _ _ _ _ _ _ _ _ ⟨rfl, rfl⟩ (Part.ag _ _ rfl) rfl rfl (Parts.nil _)) rfl rfl rfl rfl
 exact (Qd _ _ _ _ _ Jk (Qm _))
 exact (Qd _ _ _ _ _ Jk (Qm _))
 intro hQ
 rintro _ ⟨_, _, hp, rfl⟩
 obtain ⟨β8, rfl, rfl⟩ := hp
 refine GoP.oneB rfl Qs (ef_buildSlice (row ([a] : List Arc)) rfl (Jn _ _ _ _ _ _ _ _ ⟨rfl, rfl⟩ (Part.ag _ _ rfl) rfl rfl (Parts.nil _)) rfl rfl rfl rfl) (Qd _ _ _ _ _ Rem.p2 (Qm _)) (fun β17 => ?_)
 refine GoP.oneB rfl Qs (ef_append rfl rfl Jk (Src.own Qw (by first | omega | (simp only [szl]; omega) | (simp only [szl]; done))) (cat_row (α := Arc) (by first | rfl | omega | (simp only [szl] <;> first | rfl | omega)) (by first | rfl | omega | (simp only [szl] <;> first | rfl | omega)) (fun _ _ _ _ => rfl)) (by first | omega | (simp only [szl]; omega) | (simp only [szl]; done)) (app_le c12 rfl) rfl rfl rfl) (Qd _ _ _ _ _ Jk (Qd _ _ _ _ _ Rem.p2 (Qm _))) (fun β18 => ?_)
 refine Qx rfl (Qu rfl rfl) ?_
 refine GoP.one1 rfl Qs (ef_store rfl rfl rfl At.p4 upd_st1 Qh rfl) (Qd _ _ _ _ _ Rem.p4 (Qd _ _ _ _ _ Rem.p3 (Qm _))) ?_
 exact GoP.done (hQ β8 β17 β18)
 intro hQ
 rintro _ ⟨β16, rfl⟩
 refine GoP.oneC rfl Qs (ef_call rfl (Qm _) (Qm _) (slices_Clone_Arc_spec n.as e9) (Qq (Qp _ _) (Qz)) rfl (slices_Clone_Arc_I (r7))) (Qd _ _ _ _ _ Rem.p2 (Qm _)) (fun rr HH hp => ?_)
 obtain ⟨β8, rfl, rfl⟩ := hp
 refine GoP.oneB rfl Qs (ef_append rfl rfl Qk (Src.own Js (by first | omega | (simp only [szl]; omega) | (simp only [szl]; done))) (cat_row (α := Arc) (by first | rfl | omega | (simp only [szl] <;> first | rfl | omega)) (by first | rfl | omega | (simp only [szl] <;> first | rfl | omega)) (fun _ _ _ _ => rfl)) (by first | omega | (simp only [szl]; omega) | (simp only [szl]; done)) (app_le c12 rfl) rfl rfl rfl) (Qd _ _ _ _ _ Qk (Qd _ _ _ _ _ Rem.p2 (Qm _))) (fun β19 => ?_)
 refine Qx rfl (Qu rfl rfl) ?_
 refine GoP.one1 rfl Qs (ef_store rfl rfl rfl At.p4 upd_st1 Qh rfl) (Qd _ _ _ _ _ Rem.p4 (Qd _ _ _ _ _ Rem.p3 (Qm _))) ?_
 refine GoP.done (GoK.le ?_ (hQ β8 β16 β19))
 refine Le.ofDW ?_ (Qn _ _ _ _ _ Qk (Qr _) (Qn _ _ _ _ _ Qk (Qr _) (Qn _ _ _ _ _ Qk (Qr _) (Qn _ _ _ _ _ Qk (Qr _) (Qn _ _ _ _ _ Qk (Qr _) (Jb _))))))
 repeat (first | exact EnvLeW.nil | refine EnvLeW.cons rfl ?_ | refine EnvLeW.skip rfl ?_)
 intro β8 β17 β18
 exact (hQ β8 β17 β18)
 intro hQ
 rintro _ ⟨β13, rfl⟩
 refine GoP.oneN rfl (Jf rfl At.p3 At.p3 Qh rfl rfl) (Qd _ _ _ _ _ Rem.p2 (Qm _)) ?_
 refine GoP.oneC rfl Qs (ef_call rfl (Qm _) (Qm _) (slices_Clone_Arc_spec n.as e9) (Qq (Qp _ _) (Qz)) rfl (slices_Clone_Arc_I (r7))) (Qd _ _ _ _ _ Rem.p2 (Qm _)) (fun rr HH hp => ?_)
 obtain ⟨β8, rfl, rfl⟩ := hp
 refine GoP.oneB rfl Qs (ef_append rfl rfl Qk (Src.own Js (by first | omega | (simp only [szl]; omega) | (simp only [szl]; done))) (cat_row (α := Arc) (by first | rfl | omega | (simp only [szl] <;> first | rfl | omega)) (by first | rfl | omega | (simp only [szl] <;> first | rfl | omega)) (fun _ _ _ _ => rfl)) (by first | omega | (simp only [szl]; omega) | (simp only [szl]; done)) (app_le c12 rfl) rfl rfl rfl) (Qd _ _ _ _ _ Qk (Qd _ _ _ _ _ Rem.p2 (Qm _))) (fun β20 => ?_)
 refine Qx rfl (Qu rfl rfl) ?_
 refine GoP.one1 rfl Qs (ef_store rfl rfl rfl At.p4 upd_st1 Qh rfl) (Qd _ _ _ _ _ Rem.p4 (Qd _ _ _ _ _ Rem.p3 (Qm _))) ?_
 refine GoP.done (GoK.le ?_ (hQ β8 β13 β20))
 refine Le.ofDW ?_ (Qn _ _ _ _ _ Qk (Qr _) (Qn _ _ _ _ _ Qk (Qr _) (Qn _ _ _ _ _ Qk (Qr _) (Qn _ _ _ _ _ Qk (Qr _) (Qn _ _ _ _ _ Qk (Qr _) (Jb _))))))
 repeat (first | exact EnvLeW.nil | refine EnvLeW.cons rfl ?_ | refine EnvLeW.skip rfl ?_)
 intro β8 β17 β18
 refine Qe (Qj (Qj (Qc ?_)))
 refine Qa (ps_loadAg rfl At.p4 At.p4 Qh rfl rfl) ?_
 have hb := Jd H; clear H
 obtain ⟨r21, e22, H⟩ := hb
 refine GoO.effC (ef_call rfl (Qm _) (Qd _ _ _ _ _ Qk (Qm _)) (graph_CheckNet_spec (⟨n.n, n.s, n.t, (r7 ++ ([a] : List Arc))⟩ : Net) e22) (Qq (Lend.agA ⟨⟨⟨⟨Qs, Qp _ _⟩, Qp _ _⟩, Qp _ _⟩, Lend.all' Qw (by first | rfl | omega | (simp only [szl] <;> first | rfl | omega)) rfl⟩) (Qz)) rfl (graph_CheckNet_I (r21))) (fun rr HH hp => ?_)
 obtain ⟨rfl, rfl⟩ := hp
 refine Qa (Qi rfl rfl) ?_
 refine Qo (Qe (Qj (Qc ?_)))
 refine Qa (Ql rfl rfl) ?_
 refine Qa (ps_neq rfl rfl rfl) ?_
 refine Qo (Qe ?_)
 refine Jc rfl (fun h23 => ?_) (fun h23 => ?_)
 replace H := Jt h23 H
 refine Qj (Qc ?_)
 refine Qa (ps_build (Parts.nil _) rfl) ?_
 refine Qa (Ql rfl rfl) ?_
 refine GoO.eff1 (ef_storeAg rfl rfl At.p2 upd_whole Qh rfl) ?_
 refine Qa (Qi rfl rfl) ?_
 refine Qa (Qi rfl rfl) ?_
 refine Qa (Qi rfl rfl) ?_
 refine Qo (Qe ?_)
 obtain rfl := Qf H
 refine GoC.le (le_row0 83 3 (row ([] : List Arc)) rfl) ?_
 refine GoC.le (le_row0 3 1 (row ([] : List Int)) rfl) ?_
 exact Jh (ds := [.ag 4 (nth [.v (.int .i64 0), .v (.int .i64 0), .v (.int .i64 0), .own ⟨0, 0, 0⟩ 3 0 0]), .own ⟨0, 0, 0⟩ 1 0 0, .v (.int .i64 0), .v (.int .i64 r21)]) Tryd.results57 (Qt (ResD.le (ResD.cellAg rfl At.p4 Qh rfl) (by exact DLe.ag ⟨⟨⟨⟨Qs, Qb _⟩, Qb _⟩, Qb _⟩, DLe.nilOwn⟩)) (Qt (ResD.le (Qv rfl) (by exact DLe.nilOwn)) (Qt (Qv rfl) (Qt (Qv rfl) (Je))))) (Qd _ _ _ _ _ Jk (Qd _ _ _ _ _ Qk (Qm _))) ⟨⟨0, 0, 0⟩, ⟨0, 0, 0⟩, rfl, rfl⟩
 replace H := Ju h23 H
 refine Jg (Qe (Qj ?_))
 refine GoC.drawP (.q 0 (.q 1 (.two 2 3 (.one 3 (.one 4 (.one 5 (.q 6 (.q 7 (.q 8 (.q 9 (.one 10 (.q 11 (.q 12 (.q 13 (.done)))))))))))) (.one 2 (.one 4 (.one 5 (.q 6 (.q 7 (.q 8 (.q 9 (.one 10 (.q 11 (.q 12 (.q 13 (.done))))))))))))))) [(3, _, _, _)] follows (by kernel_rfl) (Qd _ _ _ _ _ Rem.p4 (Qm _)) ?_
 refine Qx rfl (ps_loadAg rfl At.p4 Qw Qh rfl rfl) ?_
 refine Qx rfl (Ql rfl rfl) ?_
 have hb := Jd H; clear H
 obtain ⟨r24, e26, H⟩ := hb
 have c29 := ck_l H; replace H := ck_r H
 have hb := Jd H; clear H
 obtain ⟨⟨r30, r32, r34, r35⟩, e36, H⟩ := hb
 apply GoP.fork5
 exact rfl
 exact rfl
 exact Qs
 exact Qs
 exact ef_call rfl (Qm _) (Qm _) (slices_Clone_int_spec f e26) (Qq (Qp _ _) (Qz)) rfl (slices_Clone_int_I (r24))
 exact ef_buildSlice (row ([0] : List Int)) rfl (Jn _ _ _ _ _ _ _ _ ⟨rfl, rfl⟩ (Part.one _ rfl rfl) rfl rfl (Parts.nil _)) rfl rfl rfl rfl
 exact (Qd _ _ _ _ _ Rem.p4 (Qm _))
 exact (Qd _ _ _ _ _ Rem.p4 (Qm _))
 intro hQ
 rintro _ ⟨_, _, hp, rfl⟩
 obtain ⟨β25, rfl, rfl⟩ := hp
 refine GoP.oneB rfl Qs (ef_buildSlice (row ([0] : List Int)) rfl (Jn _ _ _ _ _ _ _ _ ⟨rfl, rfl⟩ (Part.one _ rfl rfl) rfl rfl (Parts.nil _)) rfl rfl rfl rfl) (Qd _ _ _ _ _ Rem.p5 (Qm _)) (fun β38 => ?_)
 refine GoP.oneB rfl Qs (ef_append rfl rfl Jk (Src.own Qw (by first | omega | (simp only [szl]; omega) | (simp only [szl]; done))) (cat_row (α := Int) (by first | rfl | omega | (simp only [szl] <;> first | rfl | omega)) (by first | rfl | omega | (simp only [szl] <;> first | rfl | omega)) (fun _ _ _ _ => rfl)) (by first | omega | (simp only [szl]; omega) | (simp only [szl]; done)) (app_le c29 rfl) rfl rfl rfl) (Qd _ _ _ _ _ Jk (Qd _ _ _ _ _ Rem.p5 (Qm _))) (fun β39 => ?_)
 refine GoP.oneC rfl Qs (ef_call rfl (Qm _) (Qd _ _ _ _ _ Rem.p2 (Qd _ _ _ _ _ Qk (Qm _))) (repair_on_spec (⟨n.n, n.s, n.t, (r7 ++ ([a] : List Arc))⟩ : Net) (r24 ++ ([0] : List Int)) e36) (Qq (Lend.agA ⟨⟨⟨⟨Qs, Qp _ _⟩, Qp _ _⟩, Qp _ _⟩, Lend.all' Qw (by first | rfl | omega | (simp only [szl] <;> first | rfl | omega)) rfl⟩) (Qq (Lend.all' Js (by first | rfl | omega | (simp only [szl] <;> first | rfl | omega)) rfl) (Qz))) rfl (repair_on_I (r30, r32, r34, r35))) (Qd _ _ _ _ _ Rem.p6 (Qm _)) (fun rr HH hp => ?_)
 obtain ⟨β31, β33, rfl, rfl⟩ := hp
 refine Qx rfl (Ji rfl rfl rfl) ?_
 refine Qx rfl (Ji rfl rfl rfl) ?_
 refine Qx rfl (Ji rfl rfl rfl) ?_
 refine Qx rfl (Ji rfl rfl rfl) ?_
 refine GoP.one1 rfl Qs (ef_storeAg rfl rfl At.p6 upd_whole Qh rfl) (Qd _ _ _ _ _ Rem.p6 (Qd _ _ _ _ _ Rem.p7 (Qm _))) ?_
 refine Qx rfl (Qi rfl rfl) ?_
 refine Qx rfl (Qi rfl rfl) ?_
 refine Qx rfl (Qi rfl rfl) ?_
 exact GoP.done (hQ β25 β38 β39 β31 β33)
 intro hQ
 rintro _ ⟨β37, rfl⟩
 refine GoP.oneC rfl Qs (ef_call rfl (Qm _) (Qm _) (slices_Clone_int_spec f e26) (Qq (Qp _ _) (Qz)) rfl (slices_Clone_int_I (r24))) (Qd _ _ _ _ _ Rem.p5 (Qm _)) (fun rr HH hp => ?_)
 obtain ⟨β25, rfl, rfl⟩ := hp
 refine GoP.oneB rfl Qs (ef_append rfl rfl Qk (Src.own Js (by first | omega | (simp only [szl]; omega) | (simp only [szl]; done))) (cat_row (α := Int) (by first | rfl | omega | (simp only [szl] <;> first | rfl | omega)) (by first | rfl | omega | (simp only [szl] <;> first | rfl | omega)) (fun _ _ _ _ => rfl)) (by first | omega | (simp only [szl]; omega) | (simp only [szl]; done)) (app_le c29 rfl) rfl rfl rfl) (Qd _ _ _ _ _ Qk (Qd _ _ _ _ _ Rem.p5 (Qm _))) (fun β40 => ?_)
 refine GoP.oneC rfl Qs (ef_call rfl (Qm _) (Qd _ _ _ _ _ Rem.p2 (Qd _ _ _ _ _ Qk (Qm _))) (repair_on_spec (⟨n.n, n.s, n.t, (r7 ++ ([a] : List Arc))⟩ : Net) (r24 ++ ([0] : List Int)) e36) (Qq (Lend.agA ⟨⟨⟨⟨Qs, Qp _ _⟩, Qp _ _⟩, Qp _ _⟩, Lend.all' Qw (by first | rfl | omega | (simp only [szl] <;> first | rfl | omega)) rfl⟩) (Qq (Lend.all' Js (by first | rfl | omega | (simp only [szl] <;> first | rfl | omega)) rfl) (Qz))) rfl (repair_on_I (r30, r32, r34, r35))) (Qd _ _ _ _ _ Rem.p6 (Qm _)) (fun rr HH hp => ?_)
 obtain ⟨β31, β33, rfl, rfl⟩ := hp
 refine Qx rfl (Ji rfl rfl rfl) ?_
 refine Qx rfl (Ji rfl rfl rfl) ?_
 refine Qx rfl (Ji rfl rfl rfl) ?_
 refine Qx rfl (Ji rfl rfl rfl) ?_
 refine GoP.one1 rfl Qs (ef_storeAg rfl rfl At.p6 upd_whole Qh rfl) (Qd _ _ _ _ _ Rem.p6 (Qd _ _ _ _ _ Rem.p7 (Qm _))) ?_
 refine Qx rfl (Qi rfl rfl) ?_
 refine Qx rfl (Qi rfl rfl) ?_
 refine Qx rfl (Qi rfl rfl) ?_
 refine GoP.done (GoK.le ?_ (hQ β25 β37 β40 β31 β33))
 refine Le.ofDW ?_ (Qn _ _ _ _ _ Qk (Qr _) (Qn _ _ _ _ _ Qk (Qr _) (Qn _ _ _ _ _ Qk (Qr _) (Qn _ _ _ _ _ Qk (Qr _) (Qn _ _ _ _ _ Qk (Qr _) (Qn _ _ _ _ _ Qk (Qr _) (Qn _ _ _ _ _ Qk (Qr _) (Qn _ _ _ _ _ Qk (Qr _) (Qn _ _ _ _ _ Qk (Qr _) (Jb _))))))))))
 repeat (first | exact EnvLeW.nil | refine EnvLeW.cons rfl ?_ | refine EnvLeW.skip rfl ?_)
 intro β25 β38 β39 β31 β33
 refine Qe ?_
 obtain rfl := Qf H
 exact Jh (ds := [.ag 4 (nth [.v (.int .i64 r30.n), .v (.int .i64 r30.s), .v (.int .i64 r30.t), .own β31 3 0 r30.as.length]), .own β33 1 0 r32.length, .v (.int .i64 r34), .v (.int .i64 r35)]) Tryd.results57 (Qt (ResD.le (ResD.cellAg rfl At.p6 Qh rfl) (by exact DLe.ag ⟨⟨⟨⟨Qs, Qb _⟩, Qb _⟩, Qb _⟩, Qb _⟩)) (Qt (Qv rfl) (Qt (Qv rfl) (Qt (Qv rfl) (Je))))) (Qd _ _ _ _ _ Qk (Qd _ _ _ _ _ Qk (Qm _))) ⟨β31, β33, rfl, rfl⟩
def repair_Add_PF (out : Net × (List Int) × Int × Int) (d : D) (H : List HL) : Prop := d = .tp 4 (nth [.ag 4 (nth [.v (.int .i64 out.1.n), .v (.int .i64 out.1.s), .v (.int .i64 out.1.t), slD out.1.as]), slD out.2.1, .v (.int .i64 out.2.2.1), .v (.int .i64 out.2.2.2)]) ∧ H = []
theorem repair_Add_specF (n : Net) (f : (List Int)) (a : Arc) {out : Net × (List Int) × Int × Int} (H : repair_Add_F n f a = some out) : Does Tryd.prog 57 [.ag 4 (nth [.v (.int .i64 n.n), .v (.int .i64 n.s), .v (.int .i64 n.t), slD n.as]), slD f, .ag 3 (nth [.v (.int .i64 a.f), .v (.int .i64 a.t), .v (.int .i64 a.c)])] [] (repair_Add_PF out) :=
 Does.freeze (repair_Add_spec n f a H) fun d H hp => by
  obtain ⟨β1, β2, rfl, rfl⟩ := hp
  exact ⟨_, ⟨rfl, rfl⟩, Lend.tpL (Qq (Lend.agA ⟨⟨⟨⟨Qs, Qp _ _⟩, Qp _ _⟩, Qp _ _⟩, Lend.all' Qw rfl rfl⟩) (Qq (Lend.all' Js rfl rfl) (Qq (Qp _ _) (Qq (Qp _ _) (Qz)))))⟩
def repair_Cap_B2 (k : Int) (takes : Int) (r21 : (List Piece)) (k30 : Nat) (l25 : (List Int)) : Nat → (List Int) → Option ((List Int)) := fun k44 l39 =>
 ck (0 ≤ (((r21.getD k30 El.d).arcs).getD k44 (0 : Int)) ∧ (((r21.getD k30 El.d).arcs).getD k44 (0 : Int)) < ((l39.length : Nat) : Int)) <|
 ck (InI ((l39.getD ((((r21.getD k30 El.d).arcs).getD k44 (0 : Int)).toNat) (0 : Int)) - (max 0 (min ((r21.getD k30 El.d).amount) ((l25.getD k.toNat (0 : Int)) - takes))))) <|
 some (l39.set ((((r21.getD k30 El.d).arcs).getD k44 (0 : Int)).toNat) ((l39.getD ((((r21.getD k30 El.d).arcs).getD k44 (0 : Int)).toNat) (0 : Int)) - (max 0 (min ((r21.getD k30 El.d).amount) ((l25.getD k.toNat (0 : Int)) - takes)))))
def repair_Cap_B1 (k : Int) (takes : Int) (r21 : (List Piece)) : Nat → (List Int) → Option ((List Int)) := fun k30 l25 =>
 (slices_Contains_int_F ((r21.getD k30 El.d).arcs) k).bind fun r33 =>
 if (!r33) = true then
  some l25
 else
  ck (0 ≤ k ∧ k < ((l25.length : Nat) : Int)) <|
  ck (InI ((l25.getD k.toNat (0 : Int)) - takes)) <|
  (forN (repair_Cap_B2 k takes r21 k30 l25) (((r21.getD k30 El.d).arcs).length) 0 l25).bind fun l43 =>
  some l43
def repair_Cap_F (n : Net) (f : (List Int)) (k : Int) (takes : Int) : Option (Net × (List Int) × Int × Int) :=
 (repair_Check_F n f).bind fun r3 =>
 if r3 ≠ 0 then
  some ((⟨0, 0, 0, []⟩ : Net), [], 0, r3)
 else
  if k < 0 then
   some ((⟨0, 0, 0, []⟩ : Net), [], 0, 5)
  else
   if ((n.as.length : Nat) : Int) ≤ k then
    some ((⟨0, 0, 0, []⟩ : Net), [], 0, 5)
   else
    if takes < 0 then
     some ((⟨0, 0, 0, []⟩ : Net), [], 0, 1)
    else
     if 10000 < takes then
      some ((⟨0, 0, 0, []⟩ : Net), [], 0, 1)
     else
      (flow_Split_F n f).bind fun (r11, r13, r15) =>
      (slices_Clone_int_F f).bind fun r17 =>
      (slices_Concat_Piece_F ([r13, r11] : List (List Piece))).bind fun r21 =>
      (forN (repair_Cap_B1 k takes r21) r21.length 0 r17).bind fun l29 =>
      (slices_Clone_Arc_F n.as).bind fun r50 =>
      ck (0 ≤ k ∧ k < ((r50.length : Nat) : Int)) <|
      (repair_on_F (⟨n.n, n.s, n.t, (r50.set k.toNat (⟨(r50.getD k.toNat El.d).f, (r50.getD k.toNat El.d).t, takes⟩ : Arc))⟩ : Net) l29).bind fun (r54, r56, r58, r59) =>
      some (r54, r56, r58, r59)
def repair_Cap_P (out : Net × (List Int) × Int × Int) (d : D) (H : List HL) : Prop := ∃ β1 β2 : BK, d = .tp 4 (nth [.ag 4 (nth [.v (.int .i64 out.1.n), .v (.int .i64 out.1.s), .v (.int .i64 out.1.t), .own β1 3 0 out.1.as.length]), .own β2 1 0 out.2.1.length, .v (.int .i64 out.2.2.1), .v (.int .i64 out.2.2.2)]) ∧ H = [.one β1 83 3 (row out.1.as), .one β2 3 1 (row out.2.1)]
theorem repair_Cap_I (out : Net × (List Int) × Int × Int) : IndepP (repair_Cap_P out) := IndepP.of (by rintro _ _ ⟨β1, β2, rfl, rfl⟩; exact ⟨inferInstance, inferInstance⟩)
set_option maxRecDepth 100000 in
set_option maxHeartbeats 4000000 in
theorem repair_Cap_spec (n : Net) (f : (List Int)) (k : Int) (takes : Int) {out : Net × (List Int) × Int × Int} (H : repair_Cap_F n f k takes = some out) : Does Tryd.prog 58 [.ag 4 (nth [.v (.int .i64 n.n), .v (.int .i64 n.s), .v (.int .i64 n.t), slD n.as]), slD f, .v (.int .i64 k), .v (.int .i64 takes)] [] (repair_Cap_P out) := by
 unfold repair_Cap_F at H
 refine Does.intro Tryd.func58 rfl Tryd.ntmps58 rfl fun w0 I0 tb0 => ?_
 refine Qj (Qc ?_)
 refine Jq (ef_boxAg rfl rfl) (fun β1 => ?_)
 refine Jq (ef_alloc rfl) (fun β2 => ?_)
 refine Qa (Qi rfl rfl) ?_
 refine Qa (Qi rfl rfl) ?_
 refine Qa (Qi rfl rfl) ?_
 refine Qo (Qe (Qj (Qj (Qc ?_))))
 refine Qa (ps_loadAg rfl Js Js Qh rfl rfl) ?_
 refine Qa (Ql rfl rfl) ?_
 have hb := Jd H; clear H
 obtain ⟨r3, e4, H⟩ := hb
 refine GoO.effC (ef_call rfl (Qm _) (Qm _) (repair_Check_spec n f e4) (Qq (Lend.agA ⟨⟨⟨⟨Qs, Qp _ _⟩, Qp _ _⟩, Qp _ _⟩, Qp _ _⟩) (Qq (Qp _ _) (Qz))) rfl (repair_Check_I (r3))) (fun rr HH hp => ?_)
 obtain ⟨rfl, rfl⟩ := hp
 refine Qa (Qi rfl rfl) ?_
 refine Qo (Qe (Qj (Qc ?_)))
 refine Qa (Ql rfl rfl) ?_
 refine Qa (ps_neq rfl rfl rfl) ?_
 refine Qo (Qe ?_)
 refine Jc rfl (fun h5 => ?_) (fun h5 => ?_)
 replace H := Jt h5 H
 refine Qj (Qc ?_)
 refine Qa (ps_build (Parts.nil _) rfl) ?_
 refine Qa (Ql rfl rfl) ?_
 refine GoO.eff1 (ef_storeAg rfl rfl Qw upd_whole Qh rfl) ?_
 refine Qa (Qi rfl rfl) ?_
 refine Qa (Qi rfl rfl) ?_
 refine Qa (Qi rfl rfl) ?_
 refine Qo (Qe ?_)
 obtain rfl := Qf H
 refine GoC.le (le_row0 83 3 (row ([] : List Arc)) rfl) ?_
 refine GoC.le (le_row0 3 1 (row ([] : List Int)) rfl) ?_
 exact Jh (ds := [.ag 4 (nth [.v (.int .i64 0), .v (.int .i64 0), .v (.int .i64 0), .own ⟨0, 0, 0⟩ 3 0 0]), .own ⟨0, 0, 0⟩ 1 0 0, .v (.int .i64 0), .v (.int .i64 r3)]) Tryd.results58 (Qt (ResD.le (ResD.cellAg rfl At.p2 Qh rfl) (by exact DLe.ag ⟨⟨⟨⟨Qs, Qb _⟩, Qb _⟩, Qb _⟩, DLe.nilOwn⟩)) (Qt (ResD.le (Qv rfl) (by exact DLe.nilOwn)) (Qt (Qv rfl) (Qt (Qv rfl) (Je))))) (Qd _ _ _ _ _ Jk (Qd _ _ _ _ _ Qk (Qm _))) ⟨⟨0, 0, 0⟩, ⟨0, 0, 0⟩, rfl, rfl⟩
 replace H := Ju h5 H
 refine Jg (Qe (Qj (Qj (Qc ?_))))
 refine Qa (Ql rfl rfl) ?_
 refine Qa (ps_lss rfl rfl rfl) ?_
 refine Qa (Ql rfl rfl) ?_
 refine GoO.guardE rfl rfl rfl rfl (fun h6 => ?_) (fun h6 => ?_)
 replace H := Ju h6 H
 refine Qa (Ql rfl rfl) ?_
 refine Jl rfl rfl rfl ?_
 refine Qa (Qu rfl rfl) ?_
 refine Jl rfl rfl rfl ?_
 refine Qa (Jf rfl Js Js Qh rfl rfl) ?_
 refine Jl rfl rfl rfl ?_
 refine Qa (ps_len rfl (by constructor) rfl) ?_
 refine GoO.lenLe (n := n.as.length) (x := .tmp 33) rfl (by constructor) sl_lenLe (fun ml7 => ?_)
 refine Jl rfl rfl rfl ?_
 refine Qa (ps_geq rfl rfl rfl) ?_
 refine Qa (ps_pickF rfl rfl rfl) ?_
 refine Qo (Qe ?_)
 refine Jc rfl (fun h8 => ?_) (fun h8 => ?_)
 replace H := Jt h8 H
 refine Qj (Qc ?_)
 refine Qa (ps_build (Parts.nil _) rfl) ?_
 refine GoO.eff1 (ef_storeAg rfl rfl Qw upd_whole Qh rfl) ?_
 refine Qa (Qi rfl rfl) ?_
 refine Qa (Qi rfl rfl) ?_
 refine Qa (Qi rfl rfl) ?_
 refine Qo (Qe ?_)
 obtain rfl := Qf H
 refine GoC.le (le_row0 83 3 (row ([] : List Arc)) rfl) ?_
 refine GoC.le (le_row0 3 1 (row ([] : List Int)) rfl) ?_
 exact Jh (ds := [.ag 4 (nth [.v (.int .i64 0), .v (.int .i64 0), .v (.int .i64 0), .own ⟨0, 0, 0⟩ 3 0 0]), .own ⟨0, 0, 0⟩ 1 0 0, .v (.int .i64 0), .v (.int .i64 5)]) Tryd.results58 (Qt (ResD.le (ResD.cellAg rfl At.p2 Qh rfl) (by exact DLe.ag ⟨⟨⟨⟨Qs, Qb _⟩, Qb _⟩, Qb _⟩, DLe.nilOwn⟩)) (Qt (ResD.le (Qv rfl) (by exact DLe.nilOwn)) (Qt (Qv rfl) (Qt (Qv rfl) (Je))))) (Qd _ _ _ _ _ Jk (Qd _ _ _ _ _ Qk (Qm _))) ⟨⟨0, 0, 0⟩, ⟨0, 0, 0⟩, rfl, rfl⟩
 replace H := Ju h8 H
 refine Jg (Qe (Qj (Qj (Qc ?_))))
 refine Qa (Ql rfl rfl) ?_
 refine Qa (ps_lss rfl rfl rfl) ?_
 refine Qa (Ql rfl rfl) ?_
 refine GoO.guardE rfl rfl rfl rfl (fun h9 => ?_) (fun h9 => ?_)
 replace H := Ju h9 H
 refine Qa (Ql rfl rfl) ?_
 refine Jl rfl rfl rfl ?_
 refine Qa (ps_gtr rfl rfl rfl) ?_
 refine Qa (ps_pickF rfl rfl rfl) ?_
 refine Qo (Qe ?_)
 refine Jc rfl (fun h10 => ?_) (fun h10 => ?_)
 replace H := Jt h10 H
 refine Qj (Qc ?_)
 refine Qa (ps_build (Parts.nil _) rfl) ?_
 refine GoO.eff1 (ef_storeAg rfl rfl Qw upd_whole Qh rfl) ?_
 refine Qa (Qi rfl rfl) ?_
 refine Qa (Qi rfl rfl) ?_
 refine Qa (Qi rfl rfl) ?_
 refine Qo (Qe ?_)
 obtain rfl := Qf H
 refine GoC.le (le_row0 83 3 (row ([] : List Arc)) rfl) ?_
 refine GoC.le (le_row0 3 1 (row ([] : List Int)) rfl) ?_
 exact Jh (ds := [.ag 4 (nth [.v (.int .i64 0), .v (.int .i64 0), .v (.int .i64 0), .own ⟨0, 0, 0⟩ 3 0 0]), .own ⟨0, 0, 0⟩ 1 0 0, .v (.int .i64 0), .v (.int .i64 1)]) Tryd.results58 (Qt (ResD.le (ResD.cellAg rfl At.p2 Qh rfl) (by exact DLe.ag ⟨⟨⟨⟨Qs, Qb _⟩, Qb _⟩, Qb _⟩, DLe.nilOwn⟩)) (Qt (ResD.le (Qv rfl) (by exact DLe.nilOwn)) (Qt (Qv rfl) (Qt (Qv rfl) (Je))))) (Qd _ _ _ _ _ Jk (Qd _ _ _ _ _ Qk (Qm _))) ⟨⟨0, 0, 0⟩, ⟨0, 0, 0⟩, rfl, rfl⟩
 replace H := Ju h10 H
 refine Jg (Qe (Qj (Qc ?_)))
 refine Qa (ps_loadAg rfl Js Js Qh rfl rfl) ?_
 refine Qa (Ql rfl rfl) ?_
 have hb := Jd H; clear H
 obtain ⟨⟨r11, r13, r15⟩, e16, H⟩ := hb
 refine GoO.callF rfl (Qm _) (Qm _) (flow_Split_spec n f e16) (Qq (Lend.agA ⟨⟨⟨⟨Qs, Qp _ _⟩, Qp _ _⟩, Qp _ _⟩, Qp _ _⟩) (Qq (Qp _ _) (Qz))) rfl nil_fps (fun rr HH hp => ?_)
 obtain ⟨β12, β14, rfl, rfl⟩ := hp
 refine Qa (Ql rfl rfl) ?_
 refine Qa (Ji rfl rfl rfl) ?_
 refine Qa (Ji rfl rfl rfl) ?_
 refine Qa (Ji rfl rfl rfl) ?_
 refine Qa (Qi rfl rfl) ?_
 refine Qa (Qi rfl rfl) ?_
 refine Qa (Qi rfl rfl) ?_
 refine Qo (Qe (Qj (Qc ?_)))
 refine Qa (Ql rfl rfl) ?_
 have hb := Jd H; clear H
 obtain ⟨r17, e19, H⟩ := hb
 refine GoO.effC (ef_call rfl (Qm _) (Qm _) (slices_Clone_int_spec f e19) (Qq (Qp _ _) (Qz)) rfl (slices_Clone_int_I (r17))) (fun rr HH hp => ?_)
 obtain ⟨β18, rfl, rfl⟩ := hp
 refine Qa (Qi rfl rfl) ?_
 refine Qo (Qe (Qj (Qj (Qc ?_))))
 refine Qa (Ql rfl rfl) ?_
 refine Qa (Ql rfl rfl) ?_
 refine GoO.freezeJ (j := 54) rfl Rem.p2 (Lend.all' Qw (by first | rfl | omega | (simp only [row_len, gridC_len, rowO_len] <;> first | rfl | omega)) rfl) no_fps ?_
 refine GoO.freezeJ (j := 55) rfl Jk (Lend.all' Qw (by first | rfl | omega | (simp only [row_len, gridC_len, rowO_len] <;> first | rfl | omega)) rfl) no_fps ?_
 refine Jq (ef_buildSlice (row ([r13, r11] : List (List Piece))) rfl (Jn _ _ _ _ _ _ _ _ ⟨rfl, rfl⟩ (Part.one _ rfl rfl) rfl rfl (Jn _ _ _ _ _ _ _ _ ⟨rfl, rfl⟩ (Part.one _ rfl rfl) rfl rfl (Parts.nil _))) rfl rfl rfl rfl) (fun β20 => ?_)
 have hb := Jd H; clear H
 obtain ⟨r21, e23, H⟩ := hb
 refine GoO.callF rfl (Qm _) (Qd _ _ _ _ _ Qk (Qm _)) (slices_Concat_Piece_spec ([r13, r11] : List (List Piece)) e23) (Qq (Lend.all' Qw (by first | rfl | omega | (simp only [szl] <;> first | rfl | omega)) rfl) (Qz)) rfl no_fps (fun rr HH hp => ?_)
 obtain ⟨β22, rfl, rfl⟩ := hp
 refine Qa (ps_len rfl (by constructor) rfl) ?_
 refine GoO.lenLe (n := r21.length) (x := .tmp 57) rfl (by constructor) own_lenLe (fun ml24 => ?_)
 refine Qa (Ql rfl rfl) ?_
 refine Qo (Qe ?_)
 have hb := Jd H; clear H
 obtain ⟨l29, hl49, HK26⟩ := hb
 refine GoC.blockJ [(2, .v (.int .i64 k)), (3, .v (.int .i64 takes)), (4, .ptr β1 4 0 0), (8, .ptr β2 4 0 0)] [.one β22 128 2 (row r21), .one β2 42 4 (st1 (nth [.v (.int .i64 0), .v (.int .i64 0), .v (.int .i64 0), .v (.slice none 0 0)])), .one β1 42 4 (st1 (nth [.v (.int .i64 n.n), .v (.int .i64 n.s), .v (.int .i64 n.t), slD n.as]))] (fun v h => v = [(1, .own β18 1 0 l29.length)] ∧ h = [.one β18 3 1 (row l29)]) ?_ ?_
 refine GoC.loopJ [(2, _), (3, _), (4, _), (8, _), (57, _), (58, _)] [.one β22 128 2 (row r21), .one β2 42 4 (st1 (nth [.v (.int .i64 0), .v (.int .i64 0), .v (.int .i64 0), .v (.slice none 0 0)])), .one β1 42 4 (st1 (nth [.v (.int .i64 n.n), .v (.int .i64 n.s), .v (.int .i64 n.t), slD n.as]))] (fun mQ v h => ∃ (k30 : Nat) (l25 : (List Int)), (k30 + mQ = r21.length ∧ forN (repair_Cap_B1 k takes r21) mQ k30 l25 = some l29) ∧ v = [(59, .v (.int .i64 ((k30 : Nat) : Int))), (1, .own β18 1 0 l25.length)] ∧ h = [.one β18 3 1 (row l25)]) r21.length ⟨_, _, ⟨by omega, hl49⟩, rfl, rfl⟩ (Qg rfl (Jm rfl (Jp (by first | rfl | omega | (simp only [row_len, gridC_len, rowO_len] <;> first | rfl | omega))) (Qg rfl (Qg rfl (Qg rfl (Qg rfl (Qg rfl (Qg rfl (Qy))))))))) (Qn _ _ _ _ _ Jk (Qr _) (Qn _ _ _ _ _ Qk (Qr _) (Qn _ _ _ _ _ Qk (Jj ⟨⟨⟨⟨Qs, Qb _⟩, Qb _⟩, Qb _⟩, Qb _⟩) (Qn _ _ _ _ _ Qk (Jj ⟨⟨⟨⟨Qs, Qb _⟩, Qb _⟩, Qb _⟩, Qb _⟩) (Jb _))))) ?_
 rintro m31 v h ⟨k30, l25, ⟨hkk30, hF27⟩, rfl, rfl⟩
 refine Qj (Qc ?_)
 refine Qa (ps_lss rfl rfl rfl) ?_
 refine Qo (Qe (Qj ?_))
 refine Jc rfl (fun (hk30 : (k30 : Int) < ((r21.length : Nat) : Int)) => ?_) (fun (hk30 : ¬ (k30 : Int) < ((r21.length : Nat) : Int)) => ?_)
 obtain ⟨m31', rfl⟩ : ∃ x, m31 = x + 1 := ⟨m31 - 1, by omega⟩
 have hb := Jd hF27; clear hF27
 obtain ⟨qrm31, H, hF27⟩ := hb
 have hnk30 : k30 < r21.length := by omega
 have hIk30 : InI ((k30 : Int) + 1) := inI_len hk30 ml24
 refine Jg (Qe (Qj (GoC.block (Qj (Qc ?_)))))
 refine Qa (ps_indexAddr0N rfl rfl hnk30 rfl) ?_
 refine Qa (ps_loadAg rfl Js Js hnk30 rfl rfl) ?_
 refine Jq (ef_alloc rfl) (fun β32 => ?_)
 refine GoO.eff1 (ef_storeAg rfl rfl Qw upd_whole Qh rfl) ?_
 refine Qo (Qe (Qj (Qj (Qc ?_))))
 refine Qa (Qu rfl rfl) ?_
 refine Qa (Jf rfl Qw Qw Qh rfl rfl) ?_
 refine Qa (Ql rfl rfl) ?_
 have hb := Jd H; clear H
 obtain ⟨r33, e34, H⟩ := hb
 refine GoO.effC (ef_call rfl (Qm _) (Qm _) (slices_Contains_int_spec ((r21.getD k30 El.d).arcs) k e34) (Qq (Qp _ _) (Qq (Qp _ _) (Qz))) rfl (slices_Contains_int_I (r33))) (fun rr HH hp => ?_)
 obtain ⟨rfl, rfl⟩ := hp
 refine Qa (ps_not rfl rfl) ?_
 refine Qo (Qe ?_)
 refine GoC.cond rfl (fun h35 => ?_) (fun h35 => ?_)
 replace H := itb_t h35 H
 refine GoC.exit rfl ?_
 refine Qe (Qc ?_)
 refine Qa (ps_add rfl rfl rfl hIk30) ?_
 refine Qa (Ql rfl rfl) ?_
 refine Qo ?_
 obtain rfl := Qf H
 exact GoK.againJ m31' (by omega) ⟨_, _, ⟨by omega, hF27⟩, rfl, rfl⟩ (Qg rfl (Qg rfl (Qg rfl (Qg rfl (Qg rfl (Qg rfl (Qg rfl (Qg rfl (Qy))))))))) (Qn _ _ _ _ _ Jk (Qr _) (Qn _ _ _ _ _ Jk (Qr _) (Qn _ _ _ _ _ Jk (Jj ⟨⟨⟨⟨Qs, Qb _⟩, Qb _⟩, Qb _⟩, Qb _⟩) (Qn _ _ _ _ _ Jk (Jj ⟨⟨⟨⟨Qs, Qb _⟩, Qb _⟩, Qb _⟩, Qb _⟩) (Jb _)))))
 replace H := itb_f h35 H
 refine Jg (Qe (Qj ?_))
 refine GoC.drawA (.q 0 (.q 1 (.q 2 (.q 3 (.q 4 (.q 5 (.q 6 (.q 7 (.q 8 (.q 9 (.q 10 (.done)))))))))))) follows (by kernel_rfl) ?_
 refine Qx rfl (Qu rfl rfl) ?_
 refine Qx rfl (Jf rfl Qw Qw Qh rfl rfl) ?_
 refine Qx rfl (Ql rfl rfl) ?_
 refine Qx rfl (Ql rfl rfl) ?_
 have c36 := ck_l H; replace H := ck_r H
 refine Qx rfl (ps_indexAddr0 rfl rfl c36 rfl) ?_
 refine Qx rfl (Jf rfl Js Js (idx_lt c36) rfl rfl) ?_
 refine Qx rfl (Ql rfl rfl) ?_
 have c37 := ck_l H; replace H := ck_r H
 refine Qx rfl (ps_sub rfl rfl rfl c37) ?_
 refine Qx rfl (ps_min rfl rfl rfl) ?_
 refine Qx rfl (ps_max rfl rfl rfl) ?_
 refine Qx rfl (Qi rfl rfl) ?_
 refine GoP.done ?_
 refine Qe (Qj (Qc ?_))
 refine Qa (Qu rfl rfl) ?_
 refine Qa (Jf rfl Qw Qw Qh rfl rfl) ?_
 refine Qa (ps_len rfl (by constructor) rfl) ?_
 refine GoO.lenLe (n := ((r21.getD k30 El.d).arcs).length) (x := .tmp 79) rfl (by constructor) sl_lenLe (fun ml38 => ?_)
 refine Qa (Ql rfl rfl) ?_
 refine Qo (Qe ?_)
 have hb := Jd H; clear H
 obtain ⟨l43, hl48, HK40⟩ := hb
 refine GoC.blockJ [(2, .v (.int .i64 k)), (3, .v (.int .i64 takes)), (4, .ptr β1 4 0 0), (8, .ptr β2 4 0 0), (57, .own β22 2 0 r21.length), (58, .v (.int .i64 ((r21.length : Nat) : Int))), (59, .v (.int .i64 ((k30 : Nat) : Int)))] [.one β32 128 2 (st1 (nth [.v (.int .i64 ((r21.getD k30 El.d).amount)), slD ((r21.getD k30 El.d).arcs)])), .one β22 128 2 (row r21), .one β2 42 4 (st1 (nth [.v (.int .i64 0), .v (.int .i64 0), .v (.int .i64 0), .v (.slice none 0 0)])), .one β1 42 4 (st1 (nth [.v (.int .i64 n.n), .v (.int .i64 n.s), .v (.int .i64 n.t), slD n.as]))] (fun v h => v = [(1, .own β18 1 0 l43.length)] ∧ h = [.one β18 3 1 (row l43)]) ?_ ?_
 refine GoC.loopJ [(2, _), (3, _), (4, _), (8, _), (18, _), (57, _), (58, _), (59, _), (79, _), (80, _)] [.one β32 128 2 (st1 (nth [.v (.int .i64 ((r21.getD k30 El.d).amount)), slD ((r21.getD k30 El.d).arcs)])), .one β22 128 2 (row r21), .one β2 42 4 (st1 (nth [.v (.int .i64 0), .v (.int .i64 0), .v (.int .i64 0), .v (.slice none 0 0)])), .one β1 42 4 (st1 (nth [.v (.int .i64 n.n), .v (.int .i64 n.s), .v (.int .i64 n.t), slD n.as]))] (fun mQ v h => ∃ (k44 : Nat) (l39 : (List Int)), (k44 + mQ = ((r21.getD k30 El.d).arcs).length ∧ forN (repair_Cap_B2 k takes r21 k30 l25) mQ k44 l39 = some l43) ∧ v = [(81, .v (.int .i64 ((k44 : Nat) : Int))), (1, .own β18 1 0 l39.length)] ∧ h = [.one β18 3 1 (row l39)]) (((r21.getD k30 El.d).arcs).length) ⟨_, _, ⟨by omega, hl48⟩, rfl, rfl⟩ (Qg rfl (Jm rfl (Jp (by first | rfl | omega | (simp only [row_len, gridC_len, rowO_len] <;> first | rfl | omega))) (Qg rfl (Qg rfl (Qg rfl (Qg rfl (Qg rfl (Qg rfl (Qg rfl (Qg rfl (Qg rfl (Qg rfl (Qy))))))))))))) (Qn _ _ _ _ _ Jk (Qr _) (Qn _ _ _ _ _ Qk (Jj ⟨⟨Qs, Qb _⟩, Qb _⟩) (Qn _ _ _ _ _ Qk (Qr _) (Qn _ _ _ _ _ Qk (Jj ⟨⟨⟨⟨Qs, Qb _⟩, Qb _⟩, Qb _⟩, Qb _⟩) (Qn _ _ _ _ _ Qk (Jj ⟨⟨⟨⟨Qs, Qb _⟩, Qb _⟩, Qb _⟩, Qb _⟩) (Jb _)))))) ?_
 rintro m45 v h ⟨k44, l39, ⟨hkk44, hF41⟩, rfl, rfl⟩
 refine Qj (Qc ?_)
 refine Qa (ps_lss rfl rfl rfl) ?_
 refine Qo (Qe (Qj ?_))
 refine Jc rfl (fun (hk44 : (k44 : Int) < ((((r21.getD k30 El.d).arcs).length : Nat) : Int)) => ?_) (fun (hk44 : ¬ (k44 : Int) < ((((r21.getD k30 El.d).arcs).length : Nat) : Int)) => ?_)
 obtain ⟨m45', rfl⟩ : ∃ x, m45 = x + 1 := ⟨m45 - 1, by omega⟩
 have hb := Jd hF41; clear hF41
 obtain ⟨qrm45, H, hF41⟩ := hb
 have hnk44 : k44 < ((r21.getD k30 El.d).arcs).length := by omega
 have hIk44 : InI ((k44 : Int) + 1) := inI_len hk44 ml38
 refine Jg (Qe (Qj (GoC.block (Qj (Qc ?_)))))
 refine Qa (ps_indexAddrRN rfl rfl hnk44 rfl) ?_
 refine Qa (ps_loadR rfl hnk44 rfl rfl) ?_
 refine Qa (Qi rfl rfl) ?_
 refine Qo (Qe (Qc ?_))
 refine Qa (Ql rfl rfl) ?_
 refine Qa (Ql rfl rfl) ?_
 have c46 := ck_l H; replace H := ck_r H
 refine Qa (ps_indexAddr0 rfl rfl c46 rfl) ?_
 refine Qa (Jf rfl Qw Qw (idx_lt c46) rfl rfl) ?_
 refine Qa (Ql rfl rfl) ?_
 have c47 := ck_l H; replace H := ck_r H
 refine Qa (ps_sub rfl rfl rfl c47) ?_
 refine Qa (ps_indexAddr0 rfl rfl c46 rfl) ?_
 refine GoO.eff1 (ef_store rfl rfl rfl Qw (upd_row1 (v := ((l39.getD ((((r21.getD k30 El.d).arcs).getD k44 (0 : Int)).toNat) (0 : Int)) - (max 0 (min ((r21.getD k30 El.d).amount) ((l25.getD k.toNat (0 : Int)) - takes))))) rfl) (idx_lt c46) rfl) ?_
 refine Qo (GoK.blk (Qe (Qc ?_)))
 refine Qa (ps_add rfl rfl rfl hIk44) ?_
 refine Qa (Ql rfl rfl) ?_
 refine Qo ?_
 obtain rfl := Qf H
 exact GoK.againJ m45' (by omega) ⟨_, _, ⟨by omega, hF41⟩, rfl, rfl⟩ (Qg rfl (Jm rfl (Jp (by first | rfl | omega | (simp only [row_len, gridC_len, rowO_len, List.length_set] <;> first | rfl | omega))) (Qg rfl (Qg rfl (Qg rfl (Qg rfl (Qg rfl (Qg rfl (Qg rfl (Qg rfl (Qg rfl (Qg rfl (Qy))))))))))))) (Qn _ _ _ _ _ Qk (Qr _) (Qn _ _ _ _ _ Qk (Jj ⟨⟨Qs, Qb _⟩, Qb _⟩) (Qn _ _ _ _ _ Qk (Qr _) (Qn _ _ _ _ _ Qk (Jj ⟨⟨⟨⟨Qs, Qb _⟩, Qb _⟩, Qb _⟩, Qb _⟩) (Qn _ _ _ _ _ Qk (Jj ⟨⟨⟨⟨Qs, Qb _⟩, Qb _⟩, Qb _⟩, Qb _⟩) (Jb _))))))
 obtain rfl : m45 = 0 := by omega
 refine GoC.exit rfl ?_
 cases hF41
 exact Jr ⟨rfl, rfl⟩ (Jm rfl (Jp (by first | rfl | omega | (simp only [row_len, gridC_len, rowO_len] <;> first | rfl | omega))) (Qg rfl (Qg rfl (Qg rfl (Qg rfl (Qg rfl (Qg rfl (Qg rfl (Qy))))))))) (Qn _ _ _ _ _ Qk (Qr _) (Qn _ _ _ _ _ Qk (Jj ⟨⟨Qs, Qb _⟩, Qb _⟩) (Qn _ _ _ _ _ Qk (Qr _) (Qn _ _ _ _ _ Qk (Jj ⟨⟨⟨⟨Qs, Qb _⟩, Qb _⟩, Qb _⟩, Qb _⟩) (Qn _ _ _ _ _ Qk (Jj ⟨⟨⟨⟨Qs, Qb _⟩, Qb _⟩, Qb _⟩, Qb _⟩) (Jb _))))))
 rintro v h ⟨rfl, rfl⟩
 have H := HK40; clear HK40
 refine GoK.blk (Qe (Qc ?_))
 refine Qa (ps_add rfl rfl rfl hIk30) ?_
 refine Qa (Ql rfl rfl) ?_
 refine Qo ?_
 obtain rfl := Qf H
 exact GoK.againJ m31' (by omega) ⟨_, _, ⟨by omega, hF27⟩, rfl, rfl⟩ (Qg rfl (Jm rfl (Jp (by first | rfl | omega | (simp only [row_len, gridC_len, rowO_len] <;> first | rfl | omega))) (Qg rfl (Qg rfl (Qg rfl (Qg rfl (Qg rfl (Qg rfl (Qy))))))))) (Qn _ _ _ _ _ Qk (Qr _) (Qn _ _ _ _ _ Jk (Qr _) (Qn _ _ _ _ _ Jk (Jj ⟨⟨⟨⟨Qs, Qb _⟩, Qb _⟩, Qb _⟩, Qb _⟩) (Qn _ _ _ _ _ Jk (Jj ⟨⟨⟨⟨Qs, Qb _⟩, Qb _⟩, Qb _⟩, Qb _⟩) (Jb _)))))
 obtain rfl : m31 = 0 := by omega
 refine GoC.exit rfl ?_
 cases hF27
 exact Jr ⟨rfl, rfl⟩ (Jm rfl (Jp (by first | rfl | omega | (simp only [row_len, gridC_len, rowO_len] <;> first | rfl | omega))) (Qg rfl (Qg rfl (Qg rfl (Qg rfl (Qy)))))) (Qn _ _ _ _ _ Qk (Qr _) (Qn _ _ _ _ _ Qk (Qr _) (Qn _ _ _ _ _ Qk (Jj ⟨⟨⟨⟨Qs, Qb _⟩, Qb _⟩, Qb _⟩, Qb _⟩) (Qn _ _ _ _ _ Qk (Jj ⟨⟨⟨⟨Qs, Qb _⟩, Qb _⟩, Qb _⟩, Qb _⟩) (Jb _)))))
 rintro v h ⟨rfl, rfl⟩
 have H := HK26; clear HK26
 refine Qe (Qj (Qc ?_))
 refine Qa (Qu rfl rfl) ?_
 refine Qa (Jf rfl At.p3 At.p3 Qh rfl rfl) ?_
 have hb := Jd H; clear H
 obtain ⟨r50, e52, H⟩ := hb
 refine GoO.effC (ef_call rfl (Qm _) (Qm _) (slices_Clone_Arc_spec n.as e52) (Qq (Qp _ _) (Qz)) rfl (slices_Clone_Arc_I (r50))) (fun rr HH hp => ?_)
 obtain ⟨β51, rfl, rfl⟩ := hp
 refine Qa (Qu rfl rfl) ?_
 refine GoO.eff1 (ef_store rfl rfl rfl At.p4 upd_st1 Qh rfl) ?_
 refine Qo (Qe (Qj (Qc ?_)))
 refine Qa (Qu rfl rfl) ?_
 refine Qa (Jf rfl At.p4 At.p4 Qh rfl rfl) ?_
 refine Qa (Ql rfl rfl) ?_
 refine Qa (Ql rfl rfl) ?_
 have c53 := ck_l H; replace H := ck_r H
 refine Qa (ps_indexAddr0 rfl rfl c53 rfl) ?_
 refine Qa (Qu rfl rfl) ?_
 refine GoO.eff1 (ef_store rfl rfl rfl Qw (upd_rowF (v := (⟨(r50.getD k.toNat El.d).f, (r50.getD k.toNat El.d).t, takes⟩ : Arc)) ⟨⟨⟨Qs, rfl⟩, rfl⟩, rfl⟩) (idx_lt c53) rfl) ?_
 refine Qo (Qe (Qj (Qc ?_)))
 refine Qa (ps_loadAg rfl At.p4 At.p4 Qh rfl rfl) ?_
 refine Qa (Ql rfl rfl) ?_
 have hb := Jd H; clear H
 obtain ⟨⟨r54, r56, r58, r59⟩, e60, H⟩ := hb
 refine GoO.effC (ef_call rfl (Qm _) (Qd _ _ _ _ _ Qk (Qd _ _ _ _ _ Qk (Qm _))) (repair_on_spec (⟨n.n, n.s, n.t, (r50.set k.toNat (⟨(r50.getD k.toNat El.d).f, (r50.getD k.toNat El.d).t, takes⟩ : Arc))⟩ : Net) l29 e60) (Qq (Lend.agA ⟨⟨⟨⟨Qs, Qp _ _⟩, Qp _ _⟩, Qp _ _⟩, Lend.all' Qw (by first | rfl | omega | (simp only [szl] <;> first | rfl | omega)) rfl⟩) (Qq (Lend.all' Js (by first | rfl | omega | (simp only [szl] <;> first | rfl | omega)) rfl) (Qz))) rfl (repair_on_I (r54, r56, r58, r59))) (fun rr HH hp => ?_)
 obtain ⟨β55, β57, rfl, rfl⟩ := hp
 refine Qa (Ji rfl rfl rfl) ?_
 refine Qa (Ji rfl rfl rfl) ?_
 refine Qa (Ji rfl rfl rfl) ?_
 refine Qa (Ji rfl rfl rfl) ?_
 refine GoO.eff1 (ef_storeAg rfl rfl At.p5 upd_whole Qh rfl) ?_
 refine Qa (Qi rfl rfl) ?_
 refine Qa (Qi rfl rfl) ?_
 refine Qa (Qi rfl rfl) ?_
 refine Qo (Qe ?_)
 obtain rfl := Qf H
 exact Jh (ds := [.ag 4 (nth [.v (.int .i64 r54.n), .v (.int .i64 r54.s), .v (.int .i64 r54.t), .own β55 3 0 r54.as.length]), .own β57 1 0 r56.length, .v (.int .i64 r58), .v (.int .i64 r59)]) Tryd.results58 (Qt (ResD.le (ResD.cellAg rfl At.p5 Qh rfl) (by exact DLe.ag ⟨⟨⟨⟨Qs, Qb _⟩, Qb _⟩, Qb _⟩, Qb _⟩)) (Qt (Qv rfl) (Qt (Qv rfl) (Qt (Qv rfl) (Je))))) (Qd _ _ _ _ _ Qk (Qd _ _ _ _ _ Qk (Qm _))) ⟨β55, β57, rfl, rfl⟩
 replace H := Jt h9 H
 refine Ja rfl rfl rfl rfl ?_
 refine Qa (ps_pickT rfl rfl rfl) ?_
 refine Qo (Qe ?_)
 refine GoC.condT rfl ?_
 refine Qj (Qc ?_)
 refine Qa (ps_build (Parts.nil _) rfl) ?_
 refine GoO.eff1 (ef_storeAg rfl rfl Qw upd_whole Qh rfl) ?_
 refine Qa (Qi rfl rfl) ?_
 refine Qa (Qi rfl rfl) ?_
 refine Qa (Qi rfl rfl) ?_
 refine Qo (Qe ?_)
 obtain rfl := Qf H
 refine GoC.le (le_row0 83 3 (row ([] : List Arc)) rfl) ?_
 refine GoC.le (le_row0 3 1 (row ([] : List Int)) rfl) ?_
 exact Jh (ds := [.ag 4 (nth [.v (.int .i64 0), .v (.int .i64 0), .v (.int .i64 0), .own ⟨0, 0, 0⟩ 3 0 0]), .own ⟨0, 0, 0⟩ 1 0 0, .v (.int .i64 0), .v (.int .i64 1)]) Tryd.results58 (Qt (ResD.le (ResD.cellAg rfl At.p2 Qh rfl) (by exact DLe.ag ⟨⟨⟨⟨Qs, Qb _⟩, Qb _⟩, Qb _⟩, DLe.nilOwn⟩)) (Qt (ResD.le (Qv rfl) (by exact DLe.nilOwn)) (Qt (Qv rfl) (Qt (Qv rfl) (Je))))) (Qd _ _ _ _ _ Jk (Qd _ _ _ _ _ Qk (Qm _))) ⟨⟨0, 0, 0⟩, ⟨0, 0, 0⟩, rfl, rfl⟩
 replace H := Jt h6 H
 refine Ja rfl rfl rfl rfl ?_
 refine Ja rfl rfl rfl rfl ?_
 refine Ja rfl rfl rfl rfl ?_
 refine Ja rfl rfl rfl rfl ?_
 refine Qa (ps_pickT rfl rfl rfl) ?_
 refine Qo (Qe ?_)
 refine GoC.condT rfl ?_
 refine Qj (Qc ?_)
 refine Qa (ps_build (Parts.nil _) rfl) ?_
 refine GoO.eff1 (ef_storeAg rfl rfl Qw upd_whole Qh rfl) ?_
 refine Qa (Qi rfl rfl) ?_
 refine Qa (Qi rfl rfl) ?_
 refine Qa (Qi rfl rfl) ?_
 refine Qo (Qe ?_)
 obtain rfl := Qf H
 refine GoC.le (le_row0 83 3 (row ([] : List Arc)) rfl) ?_
 refine GoC.le (le_row0 3 1 (row ([] : List Int)) rfl) ?_
 exact Jh (ds := [.ag 4 (nth [.v (.int .i64 0), .v (.int .i64 0), .v (.int .i64 0), .own ⟨0, 0, 0⟩ 3 0 0]), .own ⟨0, 0, 0⟩ 1 0 0, .v (.int .i64 0), .v (.int .i64 5)]) Tryd.results58 (Qt (ResD.le (ResD.cellAg rfl At.p2 Qh rfl) (by exact DLe.ag ⟨⟨⟨⟨Qs, Qb _⟩, Qb _⟩, Qb _⟩, DLe.nilOwn⟩)) (Qt (ResD.le (Qv rfl) (by exact DLe.nilOwn)) (Qt (Qv rfl) (Qt (Qv rfl) (Je))))) (Qd _ _ _ _ _ Jk (Qd _ _ _ _ _ Qk (Qm _))) ⟨⟨0, 0, 0⟩, ⟨0, 0, 0⟩, rfl, rfl⟩
def repair_Cap_PF (out : Net × (List Int) × Int × Int) (d : D) (H : List HL) : Prop := d = .tp 4 (nth [.ag 4 (nth [.v (.int .i64 out.1.n), .v (.int .i64 out.1.s), .v (.int .i64 out.1.t), slD out.1.as]), slD out.2.1, .v (.int .i64 out.2.2.1), .v (.int .i64 out.2.2.2)]) ∧ H = []
theorem repair_Cap_specF (n : Net) (f : (List Int)) (k : Int) (takes : Int) {out : Net × (List Int) × Int × Int} (H : repair_Cap_F n f k takes = some out) : Does Tryd.prog 58 [.ag 4 (nth [.v (.int .i64 n.n), .v (.int .i64 n.s), .v (.int .i64 n.t), slD n.as]), slD f, .v (.int .i64 k), .v (.int .i64 takes)] [] (repair_Cap_PF out) :=
 Does.freeze (repair_Cap_spec n f k takes H) fun d H hp => by
  obtain ⟨β1, β2, rfl, rfl⟩ := hp
  exact ⟨_, ⟨rfl, rfl⟩, Lend.tpL (Qq (Lend.agA ⟨⟨⟨⟨Qs, Qp _ _⟩, Qp _ _⟩, Qp _ _⟩, Lend.all' Qw rfl rfl⟩) (Qq (Lend.all' Js rfl rfl) (Qq (Qp _ _) (Qq (Qp _ _) (Qz)))))⟩
def repair_Drop_F (n : Net) (f : (List Int)) (k : Int) : Option (Net × (List Int) × Int × Int) :=
 (repair_Cap_F n f k 0).bind fun (r3, r5, r7, r8) =>
 if r8 ≠ 0 then
  some ((⟨0, 0, 0, []⟩ : Net), [], 0, r8)
 else
  ck (InI (k + 1)) <|
  (slices_Delete_Arc_F r3.as k (k + 1)).bind fun r13 =>
  (slices_Delete_int_F r5 k (k + 1)).bind fun r16 =>
  (repair_on_F (⟨r3.n, r3.s, r3.t, r13⟩ : Net) r16).bind fun (r19, r21, r23, r24) =>
  some (r19, r21, r23, r24)
def repair_Drop_P (out : Net × (List Int) × Int × Int) (d : D) (H : List HL) : Prop := ∃ β1 β2 : BK, d = .tp 4 (nth [.ag 4 (nth [.v (.int .i64 out.1.n), .v (.int .i64 out.1.s), .v (.int .i64 out.1.t), .own β1 3 0 out.1.as.length]), .own β2 1 0 out.2.1.length, .v (.int .i64 out.2.2.1), .v (.int .i64 out.2.2.2)]) ∧ H = [.one β1 83 3 (row out.1.as), .one β2 3 1 (row out.2.1)]
set_option maxRecDepth 100000 in
set_option maxHeartbeats 4000000 in
theorem repair_Drop_spec (n : Net) (f : (List Int)) (k : Int) {out : Net × (List Int) × Int × Int} (H : repair_Drop_F n f k = some out) : Does Tryd.prog 59 [.ag 4 (nth [.v (.int .i64 n.n), .v (.int .i64 n.s), .v (.int .i64 n.t), slD n.as]), slD f, .v (.int .i64 k)] [] (repair_Drop_P out) := by
 unfold repair_Drop_F at H
 refine Does.intro Tryd.func59 rfl Tryd.ntmps59 rfl fun w0 I0 tb0 => ?_
 refine Qj (Qc ?_)
 refine Jq (ef_boxAg rfl rfl) (fun β1 => ?_)
 refine Jq (ef_alloc rfl) (fun β2 => ?_)
 refine Qa (Qi rfl rfl) ?_
 refine Qa (Qi rfl rfl) ?_
 refine Qa (Qi rfl rfl) ?_
 refine Qo (Qe (Qj (Qc ?_)))
 refine Qa (ps_loadAg rfl Js Js Qh rfl rfl) ?_
 refine Qa (Ql rfl rfl) ?_
 refine Qa (Ql rfl rfl) ?_
 have hb := Jd H; clear H
 obtain ⟨⟨r3, r5, r7, r8⟩, e9, H⟩ := hb
 refine GoO.effC (ef_call rfl (Qm _) (Qm _) (repair_Cap_spec n f k 0 e9) (Qq (Lend.agA ⟨⟨⟨⟨Qs, Qp _ _⟩, Qp _ _⟩, Qp _ _⟩, Qp _ _⟩) (Qq (Qp _ _) (Qq (Qp _ _) (Qq (Qp _ _) (Qz))))) rfl (repair_Cap_I (r3, r5, r7, r8))) (fun rr HH hp => ?_)
 obtain ⟨β4, β6, rfl, rfl⟩ := hp
 refine Qa (Ql rfl rfl) ?_
 refine Qa (Ji rfl rfl rfl) ?_
 refine Qa (Ji rfl rfl rfl) ?_
 refine Qa (Ji rfl rfl rfl) ?_
 refine Qa (Ji rfl rfl rfl) ?_
 refine Jq (ef_alloc rfl) (fun β10 => ?_)
 refine GoO.eff1 (ef_storeAg rfl rfl Qw upd_whole Qh rfl) ?_
 refine Qa (Qi rfl rfl) ?_
 refine Qa (Qi rfl rfl) ?_
 refine Qa (Qi rfl rfl) ?_
 refine Qo (Qe (Qj (Qj (Qc ?_))))
 refine Qa (Ql rfl rfl) ?_
 refine Qa (ps_neq rfl rfl rfl) ?_
 refine Qo (Qe ?_)
 refine Jc rfl (fun h11 => ?_) (fun h11 => ?_)
 replace H := Jt h11 H
 refine Qj (Qc ?_)
 refine Qa (ps_build (Parts.nil _) rfl) ?_
 refine Qa (Ql rfl rfl) ?_
 refine GoO.eff1 (ef_storeAg rfl rfl At.p3 upd_whole Qh rfl) ?_
 refine Qa (Qi rfl rfl) ?_
 refine Qa (Qi rfl rfl) ?_
 refine Qa (Qi rfl rfl) ?_
 refine Qo (Qe ?_)
 obtain rfl := Qf H
 refine GoC.le (le_row0 83 3 (row ([] : List Arc)) rfl) ?_
 refine GoC.le (le_row0 3 1 (row ([] : List Int)) rfl) ?_
 exact Jh (ds := [.ag 4 (nth [.v (.int .i64 0), .v (.int .i64 0), .v (.int .i64 0), .own ⟨0, 0, 0⟩ 3 0 0]), .own ⟨0, 0, 0⟩ 1 0 0, .v (.int .i64 0), .v (.int .i64 r8)]) Tryd.results59 (Qt (ResD.le (ResD.cellAg rfl At.p5 Qh rfl) (by exact DLe.ag ⟨⟨⟨⟨Qs, Qb _⟩, Qb _⟩, Qb _⟩, DLe.nilOwn⟩)) (Qt (ResD.le (Qv rfl) (by exact DLe.nilOwn)) (Qt (Qv rfl) (Qt (Qv rfl) (Je))))) (Qd _ _ _ _ _ Jk (Qd _ _ _ _ _ Qk (Qm _))) ⟨⟨0, 0, 0⟩, ⟨0, 0, 0⟩, rfl, rfl⟩
 replace H := Ju h11 H
 refine Jg (Qe (Qj (Qc ?_)))
 refine Qa (Qu rfl rfl) ?_
 refine Qa (Jf rfl Qw Qw Qh rfl rfl) ?_
 refine Qa (Ql rfl rfl) ?_
 refine Qa (Ql rfl rfl) ?_
 have c12 := ck_l H; replace H := ck_r H
 refine Qa (ps_add rfl rfl rfl c12) ?_
 have hb := Jd H; clear H
 obtain ⟨r13, e15, H⟩ := hb
 refine GoO.effC (ef_call rfl (Qd _ _ _ _ _ Jk (Qm _)) (Qm _) (slices_Delete_Arc_spec r3.as k (k + 1) β4 e15) (Qq (Qp _ _) (Qq (Qp _ _) (Qq (Qp _ _) (Qz)))) rfl (slices_Delete_Arc_I (r13) β4)) (fun rr HH hp => ?_)
 obtain ⟨β14, rfl, rfl⟩ := hp
 refine Qa (Qu rfl rfl) ?_
 refine GoO.eff1 (ef_store rfl rfl rfl Js upd_st1 Qh rfl) ?_
 refine Qo (Qe (Qj ?_))
 refine GoC.drawP (.q 0 (.q 1 (.q 2 (.q 3 (.q 4 (.one 5 (.one 6 (.q 7 (.q 8 (.q 9 (.q 10 (.one 11 (.q 12 (.q 13 (.q 14 (.done)))))))))))))))) [(10, _, _, _)] follows (by kernel_rfl) (Qd _ _ _ _ _ Jk (Qm _)) ?_
 refine Qx rfl (ps_loadAg rfl Js Qw Qh rfl rfl) ?_
 refine Qx rfl (Ql rfl rfl) ?_
 refine Qx rfl (Ql rfl rfl) ?_
 refine Qx rfl (Ql rfl rfl) ?_
 refine Qx rfl (ps_add rfl rfl rfl c12) ?_
 have hb := Jd H; clear H
 obtain ⟨r16, e18, H⟩ := hb
 refine GoP.oneC rfl Qs (ef_call rfl (Qd _ _ _ _ _ Rem.p2 (Qm _)) (Qm _) (slices_Delete_int_spec r5 k (k + 1) β6 e18) (Qq (Qp _ _) (Qq (Qp _ _) (Qq (Qp _ _) (Qz)))) rfl (slices_Delete_int_I (r16) β6)) (Qd _ _ _ _ _ Rem.p2 (Qd _ _ _ _ _ Jk (Qm _))) (fun rr HH hp => ?_)
 obtain ⟨β17, rfl, rfl⟩ := hp
 have hb := Jd H; clear H
 obtain ⟨⟨r19, r21, r23, r24⟩, e25, H⟩ := hb
 refine GoP.oneC rfl Qs (ef_call rfl (Qm _) (Qd _ _ _ _ _ Jk (Qd _ _ _ _ _ Qk (Qm _))) (repair_on_spec (⟨r3.n, r3.s, r3.t, r13⟩ : Net) r16 e25) (Qq (Lend.agA ⟨⟨⟨⟨Qs, Qp _ _⟩, Qp _ _⟩, Qp _ _⟩, Lend.all' Qw (by first | rfl | omega | (simp only [szl] <;> first | rfl | omega)) rfl⟩) (Qq (Lend.all' Js (by first | rfl | omega | (simp only [szl] <;> first | rfl | omega)) rfl) (Qz))) rfl (repair_on_I (r19, r21, r23, r24))) (Qd _ _ _ _ _ Rem.p2 (Qm _)) (fun rr HH hp => ?_)
 obtain ⟨β20, β22, rfl, rfl⟩ := hp
 refine Qx rfl (Ji rfl rfl rfl) ?_
 refine Qx rfl (Ji rfl rfl rfl) ?_
 refine Qx rfl (Ji rfl rfl rfl) ?_
 refine Qx rfl (Ji rfl rfl rfl) ?_
 refine GoP.one1 rfl Qs (ef_storeAg rfl rfl At.p5 upd_whole Qh rfl) (Qd _ _ _ _ _ Rem.p5 (Qd _ _ _ _ _ Rem.p4 (Qm _))) ?_
 refine Qx rfl (Qi rfl rfl) ?_
 refine Qx rfl (Qi rfl rfl) ?_
 refine Qx rfl (Qi rfl rfl) ?_
 refine GoP.done ?_
 refine Qe ?_
 obtain rfl := Qf H
 exact Jh (ds := [.ag 4 (nth [.v (.int .i64 r19.n), .v (.int .i64 r19.s), .v (.int .i64 r19.t), .own β20 3 0 r19.as.length]), .own β22 1 0 r21.length, .v (.int .i64 r23), .v (.int .i64 r24)]) Tryd.results59 (Qt (ResD.le (ResD.cellAg rfl At.p5 Qh rfl) (by exact DLe.ag ⟨⟨⟨⟨Qs, Qb _⟩, Qb _⟩, Qb _⟩, Qb _⟩)) (Qt (Qv rfl) (Qt (Qv rfl) (Qt (Qv rfl) (Je))))) (Qd _ _ _ _ _ Qk (Qd _ _ _ _ _ Qk (Qm _))) ⟨β20, β22, rfl, rfl⟩
def repair_Drop_PF (out : Net × (List Int) × Int × Int) (d : D) (H : List HL) : Prop := d = .tp 4 (nth [.ag 4 (nth [.v (.int .i64 out.1.n), .v (.int .i64 out.1.s), .v (.int .i64 out.1.t), slD out.1.as]), slD out.2.1, .v (.int .i64 out.2.2.1), .v (.int .i64 out.2.2.2)]) ∧ H = []
theorem repair_Drop_specF (n : Net) (f : (List Int)) (k : Int) {out : Net × (List Int) × Int × Int} (H : repair_Drop_F n f k = some out) : Does Tryd.prog 59 [.ag 4 (nth [.v (.int .i64 n.n), .v (.int .i64 n.s), .v (.int .i64 n.t), slD n.as]), slD f, .v (.int .i64 k)] [] (repair_Drop_PF out) :=
 Does.freeze (repair_Drop_spec n f k H) fun d H hp => by
  obtain ⟨β1, β2, rfl, rfl⟩ := hp
  exact ⟨_, ⟨rfl, rfl⟩, Lend.tpL (Qq (Lend.agA ⟨⟨⟨⟨Qs, Qp _ _⟩, Qp _ _⟩, Qp _ _⟩, Lend.all' Qw rfl rfl⟩) (Qq (Lend.all' Js rfl rfl) (Qq (Qp _ _) (Qq (Qp _ _) (Qz)))))⟩
def repair_Ends_B2 (r12 : (List Piece)) (k25 : Nat) : Nat → (List Int) → Option ((List Int)) := fun k34 l29 =>
 ck (0 ≤ (((r12.getD k25 El.d).arcs).getD k34 (0 : Int)) ∧ (((r12.getD k25 El.d).arcs).getD k34 (0 : Int)) < ((l29.length : Nat) : Int)) <|
 ck (InI ((l29.getD ((((r12.getD k25 El.d).arcs).getD k34 (0 : Int)).toNat) (0 : Int)) + ((r12.getD k25 El.d).amount))) <|
 some (l29.set ((((r12.getD k25 El.d).arcs).getD k34 (0 : Int)).toNat) ((l29.getD ((((r12.getD k25 El.d).arcs).getD k34 (0 : Int)).toNat) (0 : Int)) + ((r12.getD k25 El.d).amount)))
def repair_Ends_B1 (r12 : (List Piece)) : Nat → (List Int) → Option ((List Int)) := fun k25 l20 =>
 (forN (repair_Ends_B2 r12 k25) (((r12.getD k25 El.d).arcs).length) 0 l20).bind fun l33 =>
 some l33
def repair_Ends_F (n : Net) (f : (List Int)) (s : Int) (t : Int) : Option (Net × (List Int) × Int × Int) :=
 (repair_Check_F n f).bind fun r3 =>
 if r3 ≠ 0 then
  some ((⟨0, 0, 0, []⟩ : Net), [], 0, r3)
 else
  (graph_CheckNet_F (⟨n.n, s, t, n.as⟩ : Net)).bind fun r7 =>
  if r7 ≠ 0 then
   some ((⟨0, 0, 0, []⟩ : Net), [], 0, r7)
  else
   (flow_Split_F n f).bind fun (r10, r12, r14) =>
   ck (0 ≤ ((f.length : Nat) : Int) ∧ ((f.length : Nat) : Int) ≤ 10000000000) <|
   (forN (repair_Ends_B1 r12) r12.length 0 (List.replicate (((f.length : Nat) : Int).toNat) (0 : Int))).bind fun l24 =>
   (repair_on_F (⟨n.n, s, t, n.as⟩ : Net) l24).bind fun (r40, r42, r44, r45) =>
   some (r40, r42, r44, r45)
def repair_Ends_P (out : Net × (List Int) × Int × Int) (d : D) (H : List HL) : Prop := ∃ β1 β2 : BK, d = .tp 4 (nth [.ag 4 (nth [.v (.int .i64 out.1.n), .v (.int .i64 out.1.s), .v (.int .i64 out.1.t), .own β1 3 0 out.1.as.length]), .own β2 1 0 out.2.1.length, .v (.int .i64 out.2.2.1), .v (.int .i64 out.2.2.2)]) ∧ H = [.one β1 83 3 (row out.1.as), .one β2 3 1 (row out.2.1)]
set_option maxRecDepth 100000 in
set_option maxHeartbeats 4000000 in
theorem repair_Ends_spec (n : Net) (f : (List Int)) (s : Int) (t : Int) {out : Net × (List Int) × Int × Int} (H : repair_Ends_F n f s t = some out) : Does Tryd.prog 60 [.ag 4 (nth [.v (.int .i64 n.n), .v (.int .i64 n.s), .v (.int .i64 n.t), slD n.as]), slD f, .v (.int .i64 s), .v (.int .i64 t)] [] (repair_Ends_P out) := by
 unfold repair_Ends_F at H
 refine Does.intro Tryd.func60 rfl Tryd.ntmps60 rfl fun w0 I0 tb0 => ?_
 refine Qj (Qc ?_)
 refine Jq (ef_boxAg rfl rfl) (fun β1 => ?_)
 refine Jq (ef_alloc rfl) (fun β2 => ?_)
 refine Qa (Qi rfl rfl) ?_
 refine Qa (Qi rfl rfl) ?_
 refine Qa (Qi rfl rfl) ?_
 refine Qo (Qe (Qj (Qj (Qc ?_))))
 refine Qa (ps_loadAg rfl Js Js Qh rfl rfl) ?_
 refine Qa (Ql rfl rfl) ?_
 have hb := Jd H; clear H
 obtain ⟨r3, e4, H⟩ := hb
 refine GoO.effC (ef_call rfl (Qm _) (Qm _) (repair_Check_spec n f e4) (Qq (Lend.agA ⟨⟨⟨⟨Qs, Qp _ _⟩, Qp _ _⟩, Qp _ _⟩, Qp _ _⟩) (Qq (Qp _ _) (Qz))) rfl (repair_Check_I (r3))) (fun rr HH hp => ?_)
 obtain ⟨rfl, rfl⟩ := hp
 refine Qa (Qi rfl rfl) ?_
 refine Qo (Qe (Qj (Qc ?_)))
 refine Qa (Ql rfl rfl) ?_
 refine Qa (ps_neq rfl rfl rfl) ?_
 refine Qo (Qe ?_)
 refine Jc rfl (fun h5 => ?_) (fun h5 => ?_)
 replace H := Jt h5 H
 refine Qj (Qc ?_)
 refine Qa (ps_build (Parts.nil _) rfl) ?_
 refine Qa (Ql rfl rfl) ?_
 refine GoO.eff1 (ef_storeAg rfl rfl Qw upd_whole Qh rfl) ?_
 refine Qa (Qi rfl rfl) ?_
 refine Qa (Qi rfl rfl) ?_
 refine Qa (Qi rfl rfl) ?_
 refine Qo (Qe ?_)
 obtain rfl := Qf H
 refine GoC.le (le_row0 83 3 (row ([] : List Arc)) rfl) ?_
 refine GoC.le (le_row0 3 1 (row ([] : List Int)) rfl) ?_
 exact Jh (ds := [.ag 4 (nth [.v (.int .i64 0), .v (.int .i64 0), .v (.int .i64 0), .own ⟨0, 0, 0⟩ 3 0 0]), .own ⟨0, 0, 0⟩ 1 0 0, .v (.int .i64 0), .v (.int .i64 r3)]) Tryd.results60 (Qt (ResD.le (ResD.cellAg rfl At.p2 Qh rfl) (by exact DLe.ag ⟨⟨⟨⟨Qs, Qb _⟩, Qb _⟩, Qb _⟩, DLe.nilOwn⟩)) (Qt (ResD.le (Qv rfl) (by exact DLe.nilOwn)) (Qt (Qv rfl) (Qt (Qv rfl) (Je))))) (Qd _ _ _ _ _ Jk (Qd _ _ _ _ _ Qk (Qm _))) ⟨⟨0, 0, 0⟩, ⟨0, 0, 0⟩, rfl, rfl⟩
 replace H := Ju h5 H
 refine Jg (Qe (Qj (Qc ?_)))
 refine Qa (Qu rfl rfl) ?_
 refine Qa (Jf rfl Js Js Qh rfl rfl) ?_
 refine Qa (Ql rfl rfl) ?_
 refine Qa (Ql rfl rfl) ?_
 refine Qa (Qu rfl rfl) ?_
 refine Qa (Jf rfl Js Js Qh rfl rfl) ?_
 refine Qa (ps_build (Jn _ _ _ _ _ _ _ _ FdP.of (Part.one _ rfl rfl) rfl rfl (Jn _ _ _ _ _ _ _ _ FdP.of (Part.one _ rfl rfl) rfl rfl (Jn _ _ _ _ _ _ _ _ FdP.of (Part.one _ rfl rfl) rfl rfl (Jn _ _ _ _ _ _ _ _ FdP.of (Part.one _ rfl rfl) rfl rfl (Parts.nil _))))) rfl) ?_
 refine Jq (ef_alloc rfl) (fun β6 => ?_)
 refine GoO.eff1 (ef_storeAg rfl rfl Qw upd_whole Qh rfl) ?_
 refine Qo (Qe (Qj (Qj (Qc ?_))))
 refine Qa (ps_loadAg rfl Qw Qw Qh rfl rfl) ?_
 have hb := Jd H; clear H
 obtain ⟨r7, e8, H⟩ := hb
 refine GoO.effC (ef_call rfl (Qm _) (Qm _) (graph_CheckNet_spec (⟨n.n, s, t, n.as⟩ : Net) e8) (Qq (Lend.agA ⟨⟨⟨⟨Qs, Qp _ _⟩, Qp _ _⟩, Qp _ _⟩, Qp _ _⟩) (Qz)) rfl (graph_CheckNet_I (r7))) (fun rr HH hp => ?_)
 obtain ⟨rfl, rfl⟩ := hp
 refine Qa (Qi rfl rfl) ?_
 refine Qo (Qe (Qj (Qc ?_)))
 refine Qa (Ql rfl rfl) ?_
 refine Qa (ps_neq rfl rfl rfl) ?_
 refine Qo (Qe ?_)
 refine Jc rfl (fun h9 => ?_) (fun h9 => ?_)
 replace H := Jt h9 H
 refine Qj (Qc ?_)
 refine Qa (ps_build (Parts.nil _) rfl) ?_
 refine Qa (Ql rfl rfl) ?_
 refine GoO.eff1 (ef_storeAg rfl rfl Js upd_whole Qh rfl) ?_
 refine Qa (Qi rfl rfl) ?_
 refine Qa (Qi rfl rfl) ?_
 refine Qa (Qi rfl rfl) ?_
 refine Qo (Qe ?_)
 obtain rfl := Qf H
 refine GoC.le (le_row0 83 3 (row ([] : List Arc)) rfl) ?_
 refine GoC.le (le_row0 3 1 (row ([] : List Int)) rfl) ?_
 exact Jh (ds := [.ag 4 (nth [.v (.int .i64 0), .v (.int .i64 0), .v (.int .i64 0), .own ⟨0, 0, 0⟩ 3 0 0]), .own ⟨0, 0, 0⟩ 1 0 0, .v (.int .i64 0), .v (.int .i64 r7)]) Tryd.results60 (Qt (ResD.le (ResD.cellAg rfl At.p3 Qh rfl) (by exact DLe.ag ⟨⟨⟨⟨Qs, Qb _⟩, Qb _⟩, Qb _⟩, DLe.nilOwn⟩)) (Qt (ResD.le (Qv rfl) (by exact DLe.nilOwn)) (Qt (Qv rfl) (Qt (Qv rfl) (Je))))) (Qd _ _ _ _ _ Jk (Qd _ _ _ _ _ Qk (Qm _))) ⟨⟨0, 0, 0⟩, ⟨0, 0, 0⟩, rfl, rfl⟩
 replace H := Ju h9 H
 refine Jg (Qe (Qj (Qc ?_)))
 refine Qa (ps_loadAg rfl At.p2 At.p2 Qh rfl rfl) ?_
 refine Qa (Ql rfl rfl) ?_
 have hb := Jd H; clear H
 obtain ⟨⟨r10, r12, r14⟩, e15, H⟩ := hb
 refine GoO.callF rfl (Qm _) (Qm _) (flow_Split_spec n f e15) (Qq (Lend.agA ⟨⟨⟨⟨Qs, Qp _ _⟩, Qp _ _⟩, Qp _ _⟩, Qp _ _⟩) (Qq (Qp _ _) (Qz))) rfl nil_fps (fun rr HH hp => ?_)
 obtain ⟨β11, β13, rfl, rfl⟩ := hp
 refine Qa (Ql rfl rfl) ?_
 refine Qa (Ji rfl rfl rfl) ?_
 refine Qa (Ji rfl rfl rfl) ?_
 refine Qa (Ji rfl rfl rfl) ?_
 refine Qa (Qi rfl rfl) ?_
 refine Qa (Qi rfl rfl) ?_
 refine Qa (Qi rfl rfl) ?_
 refine Qo (Qe (Qj (Qc ?_)))
 refine Qa (Ql rfl rfl) ?_
 refine Qa (ps_len rfl (by constructor) rfl) ?_
 refine GoO.lenLe (n := f.length) (x := .tmp 49) rfl (by constructor) sl_lenLe (fun ml16 => ?_)
 have c18 := ck_l H; replace H := ck_r H
 refine Jq (ef_makeZ rfl rfl c18 rfl rfl rfl) (fun β17 => ?_)
 refine GoO.le (Le.reH Qw (HLe.zeros (α := Int) ⟨Qs, Qb _⟩)) ?_
 refine Qa (Qi rfl rfl) ?_
 refine Qo (Qe (Qj (Qj (Qc ?_))))
 refine Qa (Ql rfl rfl) ?_
 refine Qa (ps_len rfl (by constructor) rfl) ?_
 refine GoO.lenLe (n := r12.length) (x := .tmp 52) rfl (by constructor) own_lenLe (fun ml19 => ?_)
 refine Qa (Ql rfl rfl) ?_
 refine Qo (Qe ?_)
 have hb := Jd H; clear H
 obtain ⟨l24, hl39, HK21⟩ := hb
 refine GoC.blockJ [(8, .ptr β2 4 0 0), (13, .ptr β6 4 0 0)] [.one β11 128 2 (row r10), .one β13 128 2 (row r12), .one β6 42 4 (st1 (nth [.v (.int .i64 n.n), .v (.int .i64 s), .v (.int .i64 t), slD n.as])), .one β2 42 4 (st1 (nth [.v (.int .i64 0), .v (.int .i64 0), .v (.int .i64 0), .v (.slice none 0 0)])), .one β1 42 4 (st1 (nth [.v (.int .i64 n.n), .v (.int .i64 n.s), .v (.int .i64 n.t), slD n.as]))] (fun v h => v = [(1, .own β17 1 0 l24.length)] ∧ h = [.one β17 3 1 (row l24)]) ?_ ?_
 refine GoC.loopJ [(8, _), (13, _), (52, _), (53, _)] [.one β11 128 2 (row r10), .one β13 128 2 (row r12), .one β6 42 4 (st1 (nth [.v (.int .i64 n.n), .v (.int .i64 s), .v (.int .i64 t), slD n.as])), .one β2 42 4 (st1 (nth [.v (.int .i64 0), .v (.int .i64 0), .v (.int .i64 0), .v (.slice none 0 0)])), .one β1 42 4 (st1 (nth [.v (.int .i64 n.n), .v (.int .i64 n.s), .v (.int .i64 n.t), slD n.as]))] (fun mQ v h => ∃ (k25 : Nat) (l20 : (List Int)), (k25 + mQ = r12.length ∧ forN (repair_Ends_B1 r12) mQ k25 l20 = some l24) ∧ v = [(54, .v (.int .i64 ((k25 : Nat) : Int))), (1, .own β17 1 0 l20.length)] ∧ h = [.one β17 3 1 (row l20)]) r12.length ⟨_, _, ⟨by omega, hl39⟩, rfl, rfl⟩ (Qg rfl (Jm rfl (Jp (by first | rfl | omega | (simp only [row_len, gridC_len, rowO_len, List.length_replicate] <;> first | rfl | omega))) (Qg rfl (Qg rfl (Qg rfl (Qg rfl (Qy))))))) (Qn _ _ _ _ _ Qk (Qr _) (Qn _ _ _ _ _ Qk (Qr _) (Qn _ _ _ _ _ Qk (Qr _) (Qn _ _ _ _ _ Qk (Jj ⟨⟨⟨⟨Qs, Qb _⟩, Qb _⟩, Qb _⟩, Qb _⟩) (Qn _ _ _ _ _ Qk (Jj ⟨⟨⟨⟨Qs, Qb _⟩, Qb _⟩, Qb _⟩, Qb _⟩) (Qn _ _ _ _ _ Qk (Jj ⟨⟨⟨⟨Qs, Qb _⟩, Qb _⟩, Qb _⟩, Qb _⟩) (Jb _))))))) ?_
 rintro m26 v h ⟨k25, l20, ⟨hkk25, hF22⟩, rfl, rfl⟩
 refine Qj (Qc ?_)
 refine Qa (ps_lss rfl rfl rfl) ?_
 refine Qo (Qe (Qj ?_))
 refine Jc rfl (fun (hk25 : (k25 : Int) < ((r12.length : Nat) : Int)) => ?_) (fun (hk25 : ¬ (k25 : Int) < ((r12.length : Nat) : Int)) => ?_)
 obtain ⟨m26', rfl⟩ : ∃ x, m26 = x + 1 := ⟨m26 - 1, by omega⟩
 have hb := Jd hF22; clear hF22
 obtain ⟨qrm26, H, hF22⟩ := hb
 have hnk25 : k25 < r12.length := by omega
 have hIk25 : InI ((k25 : Int) + 1) := inI_len hk25 ml19
 refine Jg (Qe (Qj (GoC.block (Qj (Qc ?_)))))
 refine Qa (ps_indexAddr0N rfl rfl hnk25 rfl) ?_
 refine Qa (ps_loadAg rfl At.p2 At.p2 hnk25 rfl rfl) ?_
 refine Jq (ef_alloc rfl) (fun β27 => ?_)
 refine GoO.eff1 (ef_storeAg rfl rfl Qw upd_whole Qh rfl) ?_
 refine Qo (Qe (Qj (Qc ?_)))
 refine Qa (Qu rfl rfl) ?_
 refine Qa (Jf rfl Qw Qw Qh rfl rfl) ?_
 refine Qa (ps_len rfl (by constructor) rfl) ?_
 refine GoO.lenLe (n := ((r12.getD k25 El.d).arcs).length) (x := .tmp 59) rfl (by constructor) sl_lenLe (fun ml28 => ?_)
 refine Qa (Ql rfl rfl) ?_
 refine Qo (Qe ?_)
 have hb := Jd H; clear H
 obtain ⟨l33, hl38, HK30⟩ := hb
 refine GoC.blockJ [(8, .ptr β2 4 0 0), (13, .ptr β6 4 0 0), (52, .own β13 2 0 r12.length), (53, .v (.int .i64 ((r12.length : Nat) : Int))), (54, .v (.int .i64 ((k25 : Nat) : Int)))] [.one β27 128 2 (st1 (nth [.v (.int .i64 ((r12.getD k25 El.d).amount)), slD ((r12.getD k25 El.d).arcs)])), .one β11 128 2 (row r10), .one β13 128 2 (row r12), .one β6 42 4 (st1 (nth [.v (.int .i64 n.n), .v (.int .i64 s), .v (.int .i64 t), slD n.as])), .one β2 42 4 (st1 (nth [.v (.int .i64 0), .v (.int .i64 0), .v (.int .i64 0), .v (.slice none 0 0)])), .one β1 42 4 (st1 (nth [.v (.int .i64 n.n), .v (.int .i64 n.s), .v (.int .i64 n.t), slD n.as]))] (fun v h => v = [(1, .own β17 1 0 l33.length)] ∧ h = [.one β17 3 1 (row l33)]) ?_ ?_
 refine GoC.loopJ [(8, _), (13, _), (19, _), (52, _), (53, _), (54, _), (59, _), (60, _)] [.one β27 128 2 (st1 (nth [.v (.int .i64 ((r12.getD k25 El.d).amount)), slD ((r12.getD k25 El.d).arcs)])), .one β11 128 2 (row r10), .one β13 128 2 (row r12), .one β6 42 4 (st1 (nth [.v (.int .i64 n.n), .v (.int .i64 s), .v (.int .i64 t), slD n.as])), .one β2 42 4 (st1 (nth [.v (.int .i64 0), .v (.int .i64 0), .v (.int .i64 0), .v (.slice none 0 0)])), .one β1 42 4 (st1 (nth [.v (.int .i64 n.n), .v (.int .i64 n.s), .v (.int .i64 n.t), slD n.as]))] (fun mQ v h => ∃ (k34 : Nat) (l29 : (List Int)), (k34 + mQ = ((r12.getD k25 El.d).arcs).length ∧ forN (repair_Ends_B2 r12 k25) mQ k34 l29 = some l33) ∧ v = [(61, .v (.int .i64 ((k34 : Nat) : Int))), (1, .own β17 1 0 l29.length)] ∧ h = [.one β17 3 1 (row l29)]) (((r12.getD k25 El.d).arcs).length) ⟨_, _, ⟨by omega, hl38⟩, rfl, rfl⟩ (Qg rfl (Jm rfl (Jp (by first | rfl | omega | (simp only [row_len, gridC_len, rowO_len] <;> first | rfl | omega))) (Qg rfl (Qg rfl (Qg rfl (Qg rfl (Qg rfl (Qg rfl (Qg rfl (Qg rfl (Qy))))))))))) (Qn _ _ _ _ _ Jk (Qr _) (Qn _ _ _ _ _ Qk (Jj ⟨⟨Qs, Qb _⟩, Qb _⟩) (Qn _ _ _ _ _ Qk (Qr _) (Qn _ _ _ _ _ Qk (Qr _) (Qn _ _ _ _ _ Qk (Jj ⟨⟨⟨⟨Qs, Qb _⟩, Qb _⟩, Qb _⟩, Qb _⟩) (Qn _ _ _ _ _ Qk (Jj ⟨⟨⟨⟨Qs, Qb _⟩, Qb _⟩, Qb _⟩, Qb _⟩) (Qn _ _ _ _ _ Qk (Jj ⟨⟨⟨⟨Qs, Qb _⟩, Qb _⟩, Qb _⟩, Qb _⟩) (Jb _)))))))) ?_
 rintro m35 v h ⟨k34, l29, ⟨hkk34, hF31⟩, rfl, rfl⟩
 refine Qj (Qc ?_)
 refine Qa (ps_lss rfl rfl rfl) ?_
 refine Qo (Qe (Qj ?_))
 refine Jc rfl (fun (hk34 : (k34 : Int) < ((((r12.getD k25 El.d).arcs).length : Nat) : Int)) => ?_) (fun (hk34 : ¬ (k34 : Int) < ((((r12.getD k25 El.d).arcs).length : Nat) : Int)) => ?_)
 obtain ⟨m35', rfl⟩ : ∃ x, m35 = x + 1 := ⟨m35 - 1, by omega⟩
 have hb := Jd hF31; clear hF31
 obtain ⟨qrm35, H, hF31⟩ := hb
 have hnk34 : k34 < ((r12.getD k25 El.d).arcs).length := by omega
 have hIk34 : InI ((k34 : Int) + 1) := inI_len hk34 ml28
 refine Jg (Qe (Qj (GoC.block (Qj (Qc ?_)))))
 refine Qa (ps_indexAddrRN rfl rfl hnk34 rfl) ?_
 refine Qa (ps_loadR rfl hnk34 rfl rfl) ?_
 refine Qa (Qi rfl rfl) ?_
 refine Qo (Qe ?_)
 refine GoC.drawP (.q 0 (.q 1 (.q 2 (.q 4 (.q 5 (.one 3 (.q 6 (.q 7 (.one 8 (.done)))))))))) [(19, _, _, _)] follows (by kernel_rfl) (Qd _ _ _ _ _ Jk (Qm _)) ?_
 refine Qx rfl (Ql rfl rfl) ?_
 refine Qx rfl (Ql rfl rfl) ?_
 have c36 := ck_l H; replace H := ck_r H
 refine Qx rfl (ps_indexAddr0 rfl rfl c36 rfl) ?_
 refine Qx rfl (Qu rfl rfl) ?_
 refine Qx rfl (Jf rfl Js Qw Qh rfl rfl) ?_
 refine GoP.oneN rfl (Jf rfl Qw Qw (idx_lt c36) rfl rfl) (Qd _ _ _ _ _ Jk (Qm _)) ?_
 have c37 := ck_l H; replace H := ck_r H
 refine Qx rfl (ps_add rfl rfl rfl c37) ?_
 refine Qx rfl (ps_indexAddr0 rfl rfl c36 rfl) ?_
 refine GoP.one1 rfl Qs (ef_store rfl rfl rfl Qw (upd_row1 (v := ((l29.getD ((((r12.getD k25 El.d).arcs).getD k34 (0 : Int)).toNat) (0 : Int)) + ((r12.getD k25 El.d).amount))) rfl) (idx_lt c36) rfl) (Qd _ _ _ _ _ Qk (Qd _ _ _ _ _ Qk (Qm _))) ?_
 refine GoP.done ?_
 refine GoK.blk (Qe (Qc ?_))
 refine Qa (ps_add rfl rfl rfl hIk34) ?_
 refine Qa (Ql rfl rfl) ?_
 refine Qo ?_
 obtain rfl := Qf H
 exact GoK.againJ m35' (by omega) ⟨_, _, ⟨by omega, hF31⟩, rfl, rfl⟩ (Qg rfl (Jm rfl (Jp (by first | rfl | omega | (simp only [row_len, gridC_len, rowO_len, List.length_set] <;> first | rfl | omega))) (Qg rfl (Qg rfl (Qg rfl (Qg rfl (Qg rfl (Qg rfl (Qg rfl (Qg rfl (Qy))))))))))) (Qn _ _ _ _ _ Qk (Qr _) (Qn _ _ _ _ _ Qk (Jj ⟨⟨Qs, Qb _⟩, Qb _⟩) (Qn _ _ _ _ _ Qk (Qr _) (Qn _ _ _ _ _ Qk (Qr _) (Qn _ _ _ _ _ Qk (Jj ⟨⟨⟨⟨Qs, Qb _⟩, Qb _⟩, Qb _⟩, Qb _⟩) (Qn _ _ _ _ _ Qk (Jj ⟨⟨⟨⟨Qs, Qb _⟩, Qb _⟩, Qb _⟩, Qb _⟩) (Qn _ _ _ _ _ Qk (Jj ⟨⟨⟨⟨Qs, Qb _⟩, Qb _⟩, Qb _⟩, Qb _⟩) (Jb _))))))))
 obtain rfl : m35 = 0 := by omega
 refine GoC.exit rfl ?_
 cases hF31
 exact Jr ⟨rfl, rfl⟩ (Jm rfl (Jp (by first | rfl | omega | (simp only [row_len, gridC_len, rowO_len] <;> first | rfl | omega))) (Qg rfl (Qg rfl (Qg rfl (Qg rfl (Qg rfl (Qy))))))) (Qn _ _ _ _ _ Qk (Qr _) (Qn _ _ _ _ _ Qk (Jj ⟨⟨Qs, Qb _⟩, Qb _⟩) (Qn _ _ _ _ _ Qk (Qr _) (Qn _ _ _ _ _ Qk (Qr _) (Qn _ _ _ _ _ Qk (Jj ⟨⟨⟨⟨Qs, Qb _⟩, Qb _⟩, Qb _⟩, Qb _⟩) (Qn _ _ _ _ _ Qk (Jj ⟨⟨⟨⟨Qs, Qb _⟩, Qb _⟩, Qb _⟩, Qb _⟩) (Qn _ _ _ _ _ Qk (Jj ⟨⟨⟨⟨Qs, Qb _⟩, Qb _⟩, Qb _⟩, Qb _⟩) (Jb _))))))))
 rintro v h ⟨rfl, rfl⟩
 have H := HK30; clear HK30
 refine GoK.blk (Qe (Qc ?_))
 refine Qa (ps_add rfl rfl rfl hIk25) ?_
 refine Qa (Ql rfl rfl) ?_
 refine Qo ?_
 obtain rfl := Qf H
 exact GoK.againJ m26' (by omega) ⟨_, _, ⟨by omega, hF22⟩, rfl, rfl⟩ (Qg rfl (Jm rfl (Jp (by first | rfl | omega | (simp only [row_len, gridC_len, rowO_len] <;> first | rfl | omega))) (Qg rfl (Qg rfl (Qg rfl (Qg rfl (Qy))))))) (Qn _ _ _ _ _ Qk (Qr _) (Qn _ _ _ _ _ Jk (Qr _) (Qn _ _ _ _ _ Jk (Qr _) (Qn _ _ _ _ _ Jk (Jj ⟨⟨⟨⟨Qs, Qb _⟩, Qb _⟩, Qb _⟩, Qb _⟩) (Qn _ _ _ _ _ Jk (Jj ⟨⟨⟨⟨Qs, Qb _⟩, Qb _⟩, Qb _⟩, Qb _⟩) (Qn _ _ _ _ _ Jk (Jj ⟨⟨⟨⟨Qs, Qb _⟩, Qb _⟩, Qb _⟩, Qb _⟩) (Jb _)))))))
 obtain rfl : m26 = 0 := by omega
 refine GoC.exit rfl ?_
 cases hF22
 exact Jr ⟨rfl, rfl⟩ (Jm rfl (Jp (by first | rfl | omega | (simp only [row_len, gridC_len, rowO_len] <;> first | rfl | omega))) (Qg rfl (Qg rfl (Qy)))) (Qn _ _ _ _ _ Qk (Qr _) (Qn _ _ _ _ _ Qk (Qr _) (Qn _ _ _ _ _ Qk (Qr _) (Qn _ _ _ _ _ Qk (Jj ⟨⟨⟨⟨Qs, Qb _⟩, Qb _⟩, Qb _⟩, Qb _⟩) (Qn _ _ _ _ _ Qk (Jj ⟨⟨⟨⟨Qs, Qb _⟩, Qb _⟩, Qb _⟩, Qb _⟩) (Qn _ _ _ _ _ Qk (Jj ⟨⟨⟨⟨Qs, Qb _⟩, Qb _⟩, Qb _⟩, Qb _⟩) (Jb _)))))))
 rintro v h ⟨rfl, rfl⟩
 have H := HK21; clear HK21
 refine Qe (Qj (Qc ?_))
 refine Qa (ps_loadAg rfl At.p3 At.p3 Qh rfl rfl) ?_
 refine Qa (Ql rfl rfl) ?_
 have hb := Jd H; clear H
 obtain ⟨⟨r40, r42, r44, r45⟩, e46, H⟩ := hb
 refine GoO.effC (ef_call rfl (Qm _) (Qd _ _ _ _ _ Qk (Qm _)) (repair_on_spec (⟨n.n, s, t, n.as⟩ : Net) l24 e46) (Qq (Lend.agA ⟨⟨⟨⟨Qs, Qp _ _⟩, Qp _ _⟩, Qp _ _⟩, Qp _ _⟩) (Qq (Lend.all' Qw (by first | rfl | omega | (simp only [szl] <;> first | rfl | omega)) rfl) (Qz))) rfl (repair_on_I (r40, r42, r44, r45))) (fun rr HH hp => ?_)
 obtain ⟨β41, β43, rfl, rfl⟩ := hp
 refine Qa (Ji rfl rfl rfl) ?_
 refine Qa (Ji rfl rfl rfl) ?_
 refine Qa (Ji rfl rfl rfl) ?_
 refine Qa (Ji rfl rfl rfl) ?_
 refine GoO.eff1 (ef_storeAg rfl rfl At.p6 upd_whole Qh rfl) ?_
 refine Qa (Qi rfl rfl) ?_
 refine Qa (Qi rfl rfl) ?_
 refine Qa (Qi rfl rfl) ?_
 refine Qo (Qe ?_)
 obtain rfl := Qf H
 exact Jh (ds := [.ag 4 (nth [.v (.int .i64 r40.n), .v (.int .i64 r40.s), .v (.int .i64 r40.t), .own β41 3 0 r40.as.length]), .own β43 1 0 r42.length, .v (.int .i64 r44), .v (.int .i64 r45)]) Tryd.results60 (Qt (ResD.le (ResD.cellAg rfl At.p6 Qh rfl) (by exact DLe.ag ⟨⟨⟨⟨Qs, Qb _⟩, Qb _⟩, Qb _⟩, Qb _⟩)) (Qt (Qv rfl) (Qt (Qv rfl) (Qt (Qv rfl) (Je))))) (Qd _ _ _ _ _ Qk (Qd _ _ _ _ _ Qk (Qm _))) ⟨β41, β43, rfl, rfl⟩
def repair_Ends_PF (out : Net × (List Int) × Int × Int) (d : D) (H : List HL) : Prop := d = .tp 4 (nth [.ag 4 (nth [.v (.int .i64 out.1.n), .v (.int .i64 out.1.s), .v (.int .i64 out.1.t), slD out.1.as]), slD out.2.1, .v (.int .i64 out.2.2.1), .v (.int .i64 out.2.2.2)]) ∧ H = []
theorem repair_Ends_specF (n : Net) (f : (List Int)) (s : Int) (t : Int) {out : Net × (List Int) × Int × Int} (H : repair_Ends_F n f s t = some out) : Does Tryd.prog 60 [.ag 4 (nth [.v (.int .i64 n.n), .v (.int .i64 n.s), .v (.int .i64 n.t), slD n.as]), slD f, .v (.int .i64 s), .v (.int .i64 t)] [] (repair_Ends_PF out) :=
 Does.freeze (repair_Ends_spec n f s t H) fun d H hp => by
  obtain ⟨β1, β2, rfl, rfl⟩ := hp
  exact ⟨_, ⟨rfl, rfl⟩, Lend.tpL (Qq (Lend.agA ⟨⟨⟨⟨Qs, Qp _ _⟩, Qp _ _⟩, Qp _ _⟩, Lend.all' Qw rfl rfl⟩) (Qq (Lend.all' Js rfl rfl) (Qq (Qp _ _) (Qq (Qp _ _) (Qz)))))⟩
end Go.Proofs.YthchdnemndolbaaDoor
