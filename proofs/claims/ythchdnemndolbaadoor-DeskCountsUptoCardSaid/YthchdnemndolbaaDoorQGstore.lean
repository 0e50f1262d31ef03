import Derived.Test.YthchdnemndolbaaDoorQTys
import Derived.Test.YthchdnemndolbaaDoorQDat
import Derived.Test.YthchdnemndolbaaDoorQGcut
import Derived.Test.YthchdnemndolbaaDoorQGgraph
import Derived.Test.YthchdnemndolbaaDoorQGrepair
import Derived.Test.YthchdnemndolbaaDoorQGslices
namespace Go.Proofs.YthchdnemndolbaaDoor
open Go Go.Proofs.YthchdnemndolbaaDoor.Sx
set_option linter.unusedVariables false
set_option linter.unusedSimpArgs false
def store_New_F : Option (Store) :=
 some (⟨(⟨(⟨2, 0, 1, ([] : List Arc)⟩ : Net), ([] : List Int)⟩ : StoreState), ([] : List StoreState), ([] : List ByteArray), ([] : List StoreState)⟩ : Store)
def store_New_P (out : Store) (d : D) (H : List HL) : Prop := ∃ β1 β2 β3 β4 : BK, d = .ptr β1 8 0 0 ∧ H = [.one β1 48 8 (st1 (nth [.v (.int .i64 out.now.net.n), .v (.int .i64 out.now.net.s), .v (.int .i64 out.now.net.t), slD out.now.net.as, slD out.now.flow, .own β2 5 0 out.old.length, .own β3 1 0 out.names.length, .own β4 5 0 out.saved.length])), .one β2 45 5 (row out.old), .one β3 9 1 (row out.names), .one β4 45 5 (row out.saved)]
set_option maxRecDepth 100000 in
set_option maxHeartbeats 4000000 in
theorem store_New_spec {out : Store} (H : store_New_F = some out) : Does Tryd.prog 11 [] [] (store_New_P out) := by
 unfold store_New_F at H
 refine Does.intro Tryd.func11 rfl Tryd.ntmps11 rfl fun w0 I0 tb0 => ?_
 refine Qj (Qc ?_)
 refine Qa (Qi rfl rfl) ?_
 refine Qo (Qe (Qj (Qc ?_)))
 refine Qa (ps_build (Jn _ _ _ _ _ _ _ _ FdP.of (Part.one _ rfl rfl) rfl rfl (Jn _ _ _ _ _ _ _ _ FdP.of (Part.one _ rfl rfl) rfl rfl (Jn _ _ _ _ _ _ _ _ FdP.of (Part.one _ rfl rfl) rfl rfl (Parts.nil _)))) rfl) ?_
 refine Qa (ps_build (Jn _ _ _ _ _ _ _ _ FdP.of (Part.ag _ _ rfl) rfl rfl (Jn _ _ _ _ _ _ _ _ FdP.of (Part.one _ rfl rfl) rfl rfl (Parts.nil _))) rfl) ?_
 refine Qa (ps_build (Jn _ _ _ _ _ _ _ _ FdP.of (Part.ag _ _ rfl) rfl rfl (Parts.nil _)) rfl) ?_
 refine Jq (ef_boxAg rfl rfl) (fun β1 => ?_)
 refine Qa (Qi rfl rfl) ?_
 refine Qo (Qe ?_)
 obtain ⟨β2, hβ2⟩ : ∃ β : BK, β = ⟨0, 0, 0⟩ := ⟨_, rfl⟩
 refine GoC.le (le_row0 45 5 (row ([] : List StoreState)) rfl) ?_
 rw [← hβ2]
 obtain ⟨β3, hβ3⟩ : ∃ β : BK, β = ⟨0, 0, 0⟩ := ⟨_, rfl⟩
 refine GoC.le (le_row0 9 1 (row ([] : List ByteArray)) rfl) ?_
 rw [← hβ3]
 obtain ⟨β4, hβ4⟩ : ∃ β : BK, β = ⟨0, 0, 0⟩ := ⟨_, rfl⟩
 refine GoC.le (le_row0 45 5 (row ([] : List StoreState)) rfl) ?_
 rw [← hβ4]
 refine GoC.le (Le.reH At.p3 (Jj (g' := nth [.v (.int .i64 2), .v (.int .i64 0), .v (.int .i64 1), slD ([] : List Arc), slD ([] : List Int), .own β2 5 0 (([] : List StoreState).length), .own β3 1 0 (([] : List ByteArray).length), .own β4 5 0 (([] : List StoreState).length)]) ⟨⟨⟨⟨⟨⟨⟨⟨Qs, Qb _⟩, Qb _⟩, Qb _⟩, DLe.nilSl⟩, DLe.nilSl⟩, (by rw [hβ2]; exact DLe.nilOwn)⟩, (by rw [hβ3]; exact DLe.nilOwn)⟩, (by rw [hβ4]; exact DLe.nilOwn)⟩)) ?_
 obtain rfl := Qf H
 exact Jh (ds := [.ptr β1 8 0 0]) Tryd.results11 (Qt (Qv rfl) (Je)) (Qd _ _ _ _ _ Rem.p3 (Qd _ _ _ _ _ Rem.p2 (Qd _ _ _ _ _ Jk (Qd _ _ _ _ _ Qk (Qm _))))) ⟨β1, β2, β3, β4, rfl, rfl⟩
def store_set_F (s : Store) (n : Net) (f : (List Int)) (e_ : Int) : Option (Int × Int × Store) :=
 if e_ ≠ 0 then
  some (0, e_, s)
 else
  ck (s.old.length + 1 ≤ 1954687338268) <|
  ((
   if 20 < (((s.old.length + 1) : Nat) : Int) then
    ck (1 ≤ (s.old.length + 1)) <|
    ck (1 + ((s.old.length + 1) - 1) ≤ (s.old ++ ([s.now] : List StoreState)).length) <|
    some (⟨s.now, (subl (s.old ++ ([s.now] : List StoreState)) 1 ((s.old.length + 1) - 1)), s.names, s.saved⟩ : Store)
   else
    some (⟨s.now, (s.old ++ ([s.now] : List StoreState)), s.names, s.saved⟩ : Store)) : Option (Store)).bind fun z6 =>
  some (0, 0, (⟨(⟨n, f⟩ : StoreState), z6.old, z6.names, z6.saved⟩ : Store))
def store_set_P (out : Int × Int × Store) (βs : BK) (βs_1 : BK) (βs_2 : BK) (βs_3 : BK) (d : D) (H : List HL) : Prop := ∃ βx1 βx2 βx3 : BK, d = .tp 2 (nth [.v (.int .i64 out.1), .v (.int .i64 out.2.1)]) ∧ H = [.one βs 48 8 (st1 (nth [.v (.int .i64 out.2.2.now.net.n), .v (.int .i64 out.2.2.now.net.s), .v (.int .i64 out.2.2.now.net.t), slD out.2.2.now.net.as, slD out.2.2.now.flow, .own βx1 5 0 out.2.2.old.length, .own βx2 1 0 out.2.2.names.length, .own βx3 5 0 out.2.2.saved.length])), .one βx1 45 5 (row out.2.2.old), .one βx2 9 1 (row out.2.2.names), .one βx3 45 5 (row out.2.2.saved)]
set_option maxRecDepth 100000 in
set_option maxHeartbeats 4000000 in
theorem store_set_spec (s : Store) (n : Net) (f : (List Int)) (e_ : Int) (βs : BK) (βs_1 : BK) (βs_2 : BK) (βs_3 : BK) {out : Int × Int × Store} (H : store_set_F s n f e_ = some out) : Does Tryd.prog 55 [.ptr βs 8 0 0, .ag 4 (nth [.v (.int .i64 n.n), .v (.int .i64 n.s), .v (.int .i64 n.t), slD n.as]), slD f, .v (.int .i64 e_)] [.one βs 48 8 (st1 (nth [.v (.int .i64 s.now.net.n), .v (.int .i64 s.now.net.s), .v (.int .i64 s.now.net.t), slD s.now.net.as, slD s.now.flow, .own βs_1 5 0 s.old.length, .own βs_2 1 0 s.names.length, .own βs_3 5 0 s.saved.length])), .one βs_1 45 5 (row s.old), .one βs_2 9 1 (row s.names), .one βs_3 45 5 (row s.saved)] (store_set_P out βs βs_1 βs_2 βs_3) := by
 unfold store_set_F at H
 refine Does.intro Tryd.func55 rfl Tryd.ntmps55 rfl fun w0 I0 tb0 => ?_
 refine Qj (Qc ?_)
 refine Jq (ef_boxAg rfl rfl) (fun β1 => ?_)
 refine Qa (Qi rfl rfl) ?_
 refine Qa (Qi rfl rfl) ?_
 refine Qo (Qe (Qj (Qj (Qc ?_))))
 refine Qa (Ql rfl rfl) ?_
 refine Qa (ps_neq rfl rfl rfl) ?_
 refine Qo (Qe ?_)
 refine Jc rfl (fun h2 => ?_) (fun h2 => ?_)
 replace H := Jt h2 H
 refine Qj (Qc ?_)
 refine Qa (Ql rfl rfl) ?_
 refine Qa (Qi rfl rfl) ?_
 refine Qa (Qi rfl rfl) ?_
 refine Qo (Qe ?_)
 obtain rfl := Qf H
 exact Jh (ds := [.v (.int .i64 0), .v (.int .i64 e_)]) Tryd.results55 (Qt (Qv rfl) (Qt (Qv rfl) (Je))) (Qd _ _ _ _ _ Jk (Qd _ _ _ _ _ Jk (Qd _ _ _ _ _ Jk (Qd _ _ _ _ _ Jk (Qm _))))) ⟨βs_1, βs_2, βs_3, rfl, rfl⟩
 replace H := Ju h2 H
 refine Jg (Qe (Qj ?_))
 refine GoC.drawQ (.q 0 (.q 1 (.q 2 (.q 3 (.q 4 (.q 5 (.q 6 (.q 7 (.q 8 (.one 9 (.one 10 (.q 11 (.q 12 (.one 13 (.done))))))))))))))) 10 follows (by kernel_rfl) ?_
 refine Jo rfl rfl (Ql rfl rfl) ?_
 refine Jo rfl rfl (Ql rfl rfl) ?_
 refine Jo rfl rfl (ps_nilCheck rfl rfl) ?_
 refine Jo rfl rfl (Qu rfl rfl) ?_
 refine GoQ.qN rfl (by kernel_rfl) (Jf rfl Js Js Qh rfl rfl) ?_
 refine Jo rfl rfl (Ql rfl rfl) ?_
 refine Jo rfl rfl (ps_nilCheck rfl rfl) ?_
 refine Jo rfl rfl (Qu rfl rfl) ?_
 refine GoQ.qN rfl (by kernel_rfl) (ps_loadAg rfl Js Js Qh rfl rfl) ?_
 refine GoQ.oneB rfl rfl Qs (ef_buildSlice (row ([s.now] : List StoreState)) rfl (Jn _ _ _ _ _ _ _ _ ⟨rfl, rfl⟩ (Part.ag _ _ rfl) rfl rfl (Parts.nil _)) rfl rfl rfl rfl) (Qd _ _ _ _ _ Qk (Qd _ _ _ _ _ Qk (Qd _ _ _ _ _ Qk (Qd _ _ _ _ _ Qk (Qd _ _ _ _ _ Qk (Qm _)))))) (fun β3 => ?_)
 have c5 := ck_l H; replace H := ck_r H
 refine GoQ.lastB rfl Qs (ef_append rfl rfl Rem.p3 (Src.own Qw (by first | omega | (simp only [szl]; omega) | (simp only [szl]; done))) (cat_row (α := StoreState) (by first | rfl | omega | (simp only [szl] <;> first | rfl | omega)) (by first | rfl | omega | (simp only [szl] <;> first | rfl | omega)) (fun _ _ _ _ => rfl)) (by first | omega | (simp only [szl]; omega) | (simp only [szl]; done)) (app_le c5 rfl) rfl rfl rfl) (Qd _ _ _ _ _ Rem.p3 (Qm _)) (fun β4 => ?_)
 refine Qx rfl (ps_nilCheck rfl rfl) ?_
 refine Qx rfl (Qu rfl rfl) ?_
 refine GoP.one1 rfl Qs (ef_store rfl rfl rfl At.p3 upd_st1 Qh rfl) (Qd _ _ _ _ _ Rem.p3 (Qm _)) ?_
 refine GoP.done ?_
 refine Qe ?_
 have hb := Jd H; clear H
 obtain ⟨z6, H, HK10⟩ := hb
 refine GoC.seqJ [(2, slD f), (5, .ptr β1 4 0 0)] [.one β3 45 5 (row ([s.now] : List StoreState)), .one β1 42 4 (st1 (nth [.v (.int .i64 n.n), .v (.int .i64 n.s), .v (.int .i64 n.t), slD n.as]))] (fun v h => ∃ (β7 : BK) (β8 : BK) (β9 : BK), v = [(0, .ptr βs 8 0 0)] ∧ h = [.one βs 48 8 (st1 (nth [.v (.int .i64 z6.now.net.n), .v (.int .i64 z6.now.net.s), .v (.int .i64 z6.now.net.t), slD z6.now.net.as, slD z6.now.flow, .own β7 5 0 z6.old.length, .own β8 1 0 z6.names.length, .own β9 5 0 z6.saved.length])), .one β7 45 5 (row z6.old), .one β8 9 1 (row z6.names), .one β9 45 5 (row z6.saved)]) ?_ ?_
 refine Qj (Qc ?_)
 refine Qa (Ql rfl rfl) ?_
 refine Qa (ps_nilCheck rfl rfl) ?_
 refine Qa (Qu rfl rfl) ?_
 refine Qa (Jf rfl At.p3 At.p3 Qh rfl rfl) ?_
 refine Qa (ps_len rfl (by constructor) rfl) ?_
 refine GoO.lenLe (n := (s.old.length + 1)) (x := .tmp 29) rfl (by constructor) own_lenLe (fun ml12 => ?_)
 refine Qa (ps_gtr rfl rfl rfl) ?_
 refine Qo (Qe ?_)
 refine Jc rfl (fun h13 => ?_) (fun h13 => ?_)
 replace H := Jt h13 H
 refine Qc ?_
 refine Qa (Ql rfl rfl) ?_
 refine Qa (Ql rfl rfl) ?_
 refine Qa (ps_nilCheck rfl rfl) ?_
 refine Qa (Qu rfl rfl) ?_
 refine Qa (Jf rfl At.p3 At.p3 Qh rfl rfl) ?_
 have c14 := ck_l H; replace H := ck_r H
 refine Qa (ps_slice rfl (Bd.nat _ _ 1 _ rfl) (Bd.no _) c14 (Nat.le_refl _) rfl) ?_
 refine Qa (ps_nilCheck rfl rfl) ?_
 refine Qa (Qu rfl rfl) ?_
 have c16 := ck_l H; replace H := ck_r H
 refine GoO.eff1 (ef_store rfl rfl rfl At.p3 upd_st1 Qh rfl) ?_
 refine GoO.le (Le.reH At.p3 (Jj (g' := nth [.v (.int .i64 s.now.net.n), .v (.int .i64 s.now.net.s), .v (.int .i64 s.now.net.t), slD s.now.net.as, slD s.now.flow, .own (⟨β4.b, β4.o + (1 + 0) * 5, β4.s - (1 + 0)⟩ : BK) 5 0 ((s.old.length + 1) - 1), .own βs_2 1 0 s.names.length, .own βs_3 5 0 s.saved.length]) ⟨⟨⟨⟨⟨⟨⟨⟨Qs, Qb _⟩, Qb _⟩, Qb _⟩, Qb _⟩, Qb _⟩, DLe.shiftR⟩, Qb _⟩, Qb _⟩)) ?_
 refine GoO.le (Le.shiftRow (r := 1 + 0) (len := ((s.old.length + 1) - 1)) Qw (by have hz := c16; simp only [row_len]; omega)) ?_
 refine GoO.le (Le.reH Qw (HLe.part (xs := (s.old ++ ([s.now] : List StoreState))) (r := 1 + 0) (len := ((s.old.length + 1) - 1)) (by have hz := c16; omega))) ?_
 generalize (⟨β4.b, β4.o + (1 + 0) * 5, β4.s - (1 + 0)⟩ : BK) = β15
 refine Qo ?_
 cases H
 exact Jr ⟨β15, βs_2, βs_3, rfl, rfl⟩ (Qg rfl (Qg rfl (Qg rfl (Qy)))) (Qn _ _ _ _ _ Rem.p3 (Jj ⟨⟨⟨⟨⟨⟨⟨⟨Qs, Qb _⟩, Qb _⟩, Qb _⟩, Qb _⟩, Qb _⟩, Jp (by first | rfl | omega | (simp only [row_len, gridC_len, rowO_len, List.length_append, List.length_cons, List.length_nil, subl_length] <;> first | rfl | omega))⟩, Jp (by first | rfl | omega | (simp only [row_len, gridC_len, rowO_len] <;> first | rfl | omega))⟩, Jp (by first | rfl | omega | (simp only [row_len, gridC_len, rowO_len] <;> first | rfl | omega))⟩) (Qn _ _ _ _ _ Qk (Qr _) (Qn _ _ _ _ _ Rem.p2 (Qr _) (Qn _ _ _ _ _ Rem.p2 (Qr _) (Qn _ _ _ _ _ Qk (Qr _) (Qn _ _ _ _ _ Qk (Jj ⟨⟨⟨⟨Qs, Qb _⟩, Qb _⟩, Qb _⟩, Qb _⟩) (Jb _)))))))
 replace H := Ju h13 H
 refine Jg ?_
 cases H
 exact Jr ⟨β4, βs_2, βs_3, rfl, rfl⟩ (Qg rfl (Qg rfl (Qg rfl (Qy)))) (Qn _ _ _ _ _ Rem.p3 (Jj ⟨⟨⟨⟨⟨⟨⟨⟨Qs, Qb _⟩, Qb _⟩, Qb _⟩, Qb _⟩, Qb _⟩, Jp (by first | rfl | omega | (simp only [row_len, gridC_len, rowO_len, List.length_append, List.length_cons, List.length_nil] <;> first | rfl | omega))⟩, Jp (by first | rfl | omega | (simp only [row_len, gridC_len, rowO_len] <;> first | rfl | omega))⟩, Jp (by first | rfl | omega | (simp only [row_len, gridC_len, rowO_len] <;> first | rfl | omega))⟩) (Qn _ _ _ _ _ Qk (Qr _) (Qn _ _ _ _ _ Rem.p2 (Qr _) (Qn _ _ _ _ _ Rem.p2 (Qr _) (Qn _ _ _ _ _ Qk (Qr _) (Qn _ _ _ _ _ Qk (Jj ⟨⟨⟨⟨Qs, Qb _⟩, Qb _⟩, Qb _⟩, Qb _⟩) (Jb _)))))))
 rintro v h ⟨β7, β8, β9, rfl, rfl⟩
 have H := HK10; clear HK10
 refine Qj (Qc ?_)
 refine Qa (Ql rfl rfl) ?_
 refine Qa (ps_loadAg rfl At.p5 At.p5 Qh rfl rfl) ?_
 refine Qa (Ql rfl rfl) ?_
 refine Qa (ps_build (Jn _ _ _ _ _ _ _ _ FdP.of (Part.ag _ _ rfl) rfl rfl (Jn _ _ _ _ _ _ _ _ FdP.of (Part.one _ rfl rfl) rfl rfl (Parts.nil _))) rfl) ?_
 refine Qa (ps_nilCheck rfl rfl) ?_
 refine Qa (Qu rfl rfl) ?_
 refine GoO.eff1 (ef_storeAg rfl rfl Qw upd_stN Qh rfl) ?_
 refine GoO.le (Le.reH Qw (Jj (g' := nth [.v (.int .i64 n.n), .v (.int .i64 n.s), .v (.int .i64 n.t), slD n.as, slD f, .own β7 5 0 z6.old.length, .own β8 1 0 z6.names.length, .own β9 5 0 z6.saved.length]) ⟨⟨⟨⟨⟨⟨⟨⟨Qs, Qb _⟩, Qb _⟩, Qb _⟩, Qb _⟩, Qb _⟩, Qb _⟩, Qb _⟩, Qb _⟩)) ?_
 refine Qo (Qe (Qj (Qc ?_)))
 refine Qa (Qi rfl rfl) ?_
 refine Qa (Qi rfl rfl) ?_
 refine Qo (Qe ?_)
 obtain rfl := Qf H
 exact Jh (ds := [.v (.int .i64 0), .v (.int .i64 0)]) Tryd.results55 (Qt (Qv rfl) (Qt (Qv rfl) (Je))) (Qd _ _ _ _ _ Qk (Qd _ _ _ _ _ Qk (Qd _ _ _ _ _ Qk (Qd _ _ _ _ _ Qk (Qm _))))) ⟨β7, β8, β9, rfl, rfl⟩
def store_undo_F (s : Store) : Option (Int × Int × Store) :=
 if ((s.old.length : Nat) : Int) = 0 then
  some (0, 5, s)
 else
  ck (InI (((s.old.length : Nat) : Int) - 1)) <|
  ck (0 ≤ (((s.old.length : Nat) : Int) - 1) ∧ (((s.old.length : Nat) : Int) - 1) < ((s.old.length : Nat) : Int)) <|
  ck (0 ≤ (((s.old.length : Nat) : Int) - 1)) <|
  ck ((((s.old.length : Nat) : Int) - 1).toNat ≤ s.old.length) <|
  ck (0 + ((((s.old.length : Nat) : Int) - 1).toNat) ≤ s.old.length) <|
  some (0, 0, (⟨(⟨((s.old.getD ((((s.old.length : Nat) : Int) - 1).toNat) El.d).net), (s.old.getD ((((s.old.length : Nat) : Int) - 1).toNat) El.d).flow⟩ : StoreState), (subl s.old 0 ((((s.old.length : Nat) : Int) - 1).toNat)), s.names, s.saved⟩ : Store))
def store_undo_P (out : Int × Int × Store) (βs : BK) (βs_1 : BK) (βs_2 : BK) (βs_3 : BK) (d : D) (H : List HL) : Prop := ∃ βx1 βx2 βx3 : BK, d = .tp 2 (nth [.v (.int .i64 out.1), .v (.int .i64 out.2.1)]) ∧ H = [.one βs 48 8 (st1 (nth [.v (.int .i64 out.2.2.now.net.n), .v (.int .i64 out.2.2.now.net.s), .v (.int .i64 out.2.2.now.net.t), slD out.2.2.now.net.as, slD out.2.2.now.flow, .own βx1 5 0 out.2.2.old.length, .own βx2 1 0 out.2.2.names.length, .own βx3 5 0 out.2.2.saved.length])), .one βx1 45 5 (row out.2.2.old), .one βx2 9 1 (row out.2.2.names), .one βx3 45 5 (row out.2.2.saved)]
set_option maxRecDepth 100000 in
set_option maxHeartbeats 4000000 in
theorem store_undo_spec (s : Store) (βs : BK) (βs_1 : BK) (βs_2 : BK) (βs_3 : BK) {out : Int × Int × Store} (H : store_undo_F s = some out) : Does Tryd.prog 61 [.ptr βs 8 0 0] [.one βs 48 8 (st1 (nth [.v (.int .i64 s.now.net.n), .v (.int .i64 s.now.net.s), .v (.int .i64 s.now.net.t), slD s.now.net.as, slD s.now.flow, .own βs_1 5 0 s.old.length, .own βs_2 1 0 s.names.length, .own βs_3 5 0 s.saved.length])), .one βs_1 45 5 (row s.old), .one βs_2 9 1 (row s.names), .one βs_3 45 5 (row s.saved)] (store_undo_P out βs βs_1 βs_2 βs_3) := by
 unfold store_undo_F at H
 refine Does.intro Tryd.func61 rfl Tryd.ntmps61 rfl fun w0 I0 tb0 => ?_
 refine Qj (Qc ?_)
 refine Qa (Qi rfl rfl) ?_
 refine Qa (Qi rfl rfl) ?_
 refine Qo (Qe (Qj (Qj (Qc ?_))))
 refine Qa (Ql rfl rfl) ?_
 refine Qa (ps_nilCheck rfl rfl) ?_
 refine Qa (Qu rfl rfl) ?_
 refine Qa (Jf rfl Qw Qw Qh rfl rfl) ?_
 refine Qa (ps_len rfl (by constructor) rfl) ?_
 refine GoO.lenLe (n := s.old.length) (x := .tmp 7) rfl (by constructor) own_lenLe (fun ml1 => ?_)
 refine Qa (ps_eql rfl rfl rfl) ?_
 refine Qo (Qe ?_)
 refine Jc rfl (fun h2 => ?_) (fun h2 => ?_)
 replace H := Jt h2 H
 refine Qj (Qc ?_)
 refine Qa (Qi rfl rfl) ?_
 refine Qa (Qi rfl rfl) ?_
 refine Qo (Qe ?_)
 obtain rfl := Qf H
 exact Jh (ds := [.v (.int .i64 0), .v (.int .i64 5)]) Tryd.results61 (Qt (Qv rfl) (Qt (Qv rfl) (Je))) (Qd _ _ _ _ _ Qk (Qd _ _ _ _ _ Qk (Qd _ _ _ _ _ Qk (Qd _ _ _ _ _ Qk (Qm _))))) ⟨βs_1, βs_2, βs_3, rfl, rfl⟩
 replace H := Ju h2 H
 refine Jg (Qe (Qj ?_))
 refine GoC.drawQ (.q 0 (.q 1 (.q 2 (.q 3 (.q 4 (.q 5 (.q 6 (.q 7 (.q 8 (.q 9 (.q 10 (.q 11 (.q 12 (.q 13 (.q 14 (.one 15 (.done))))))))))))))))) 15 follows (by kernel_rfl) ?_
 refine Jo rfl rfl (Ql rfl rfl) ?_
 refine Jo rfl rfl (Ql rfl rfl) ?_
 refine Jo rfl rfl (ps_nilCheck rfl rfl) ?_
 refine Jo rfl rfl (Qu rfl rfl) ?_
 refine GoQ.qN rfl (by kernel_rfl) (Jf rfl Qw Qw Qh rfl rfl) ?_
 refine Jo rfl rfl (Ql rfl rfl) ?_
 refine Jo rfl rfl (ps_nilCheck rfl rfl) ?_
 refine Jo rfl rfl (Qu rfl rfl) ?_
 refine GoQ.qN rfl (by kernel_rfl) (Jf rfl Qw Qw Qh rfl rfl) ?_
 refine Jo rfl rfl (ps_len rfl (by constructor) rfl) ?_
 have c3 := ck_l H; replace H := ck_r H
 refine Jo rfl rfl (ps_sub rfl rfl rfl c3) ?_
 have c4 := ck_l H; replace H := ck_r H
 refine Jo rfl rfl (ps_indexAddr0 rfl rfl c4 rfl) ?_
 refine GoQ.qN rfl (by kernel_rfl) (ps_loadAg rfl Js Js (idx_lt c4) rfl rfl) ?_
 refine Jo rfl rfl (ps_nilCheck rfl rfl) ?_
 refine Jo rfl rfl (Qu rfl rfl) ?_
 refine GoQ.last1 rfl Qs (ef_storeAg rfl rfl Qw upd_stN Qh rfl) (Qd _ _ _ _ _ Qk (Qm _)) ?_
 refine GoP.leD (Le.reH Qw (Jj (g' := nth [.v (.int .i64 (((s.old.getD ((((s.old.length : Nat) : Int) - 1).toNat) El.d).net).n)), .v (.int .i64 (((s.old.getD ((((s.old.length : Nat) : Int) - 1).toNat) El.d).net).s)), .v (.int .i64 (((s.old.getD ((((s.old.length : Nat) : Int) - 1).toNat) El.d).net).t)), slD (((s.old.getD ((((s.old.length : Nat) : Int) - 1).toNat) El.d).net).as), slD ((s.old.getD ((((s.old.length : Nat) : Int) - 1).toNat) El.d).flow), .own βs_1 5 0 s.old.length, .own βs_2 1 0 s.names.length, .own βs_3 5 0 s.saved.length]) ⟨⟨⟨⟨⟨⟨⟨⟨Qs, Qb _⟩, Qb _⟩, Qb _⟩, Qb _⟩, Qb _⟩, Qb _⟩, Qb _⟩, Qb _⟩)) ?_
 refine GoP.done ?_
 refine Qe (Qj ?_)
 refine GoC.drawQ (.q 0 (.q 1 (.q 2 (.q 3 (.q 4 (.q 5 (.q 6 (.q 7 (.q 8 (.q 9 (.q 10 (.q 11 (.q 12 (.q 13 (.one 14 (.done)))))))))))))))) 14 follows (by kernel_rfl) ?_
 refine Jo rfl rfl (Ql rfl rfl) ?_
 refine Jo rfl rfl (Ql rfl rfl) ?_
 refine Jo rfl rfl (ps_nilCheck rfl rfl) ?_
 refine Jo rfl rfl (Qu rfl rfl) ?_
 refine GoQ.qN rfl (by kernel_rfl) (Jf rfl Qw Qw Qh rfl rfl) ?_
 refine Jo rfl rfl (Ql rfl rfl) ?_
 refine Jo rfl rfl (ps_nilCheck rfl rfl) ?_
 refine Jo rfl rfl (Qu rfl rfl) ?_
 refine GoQ.qN rfl (by kernel_rfl) (Jf rfl Qw Qw Qh rfl rfl) ?_
 refine Jo rfl rfl (ps_len rfl (by constructor) rfl) ?_
 refine Jo rfl rfl (ps_sub rfl rfl rfl c3) ?_
 have c5 := ck_l H; replace H := ck_r H
 have c6 := ck_l H; replace H := ck_r H
 refine Jo rfl rfl (ps_slice rfl (Bd.no _) (Bd.int _ _ _ _ rfl c5) (Nat.zero_le _) c6 rfl) ?_
 refine Jo rfl rfl (ps_nilCheck rfl rfl) ?_
 refine Jo rfl rfl (Qu rfl rfl) ?_
 have c8 := ck_l H; replace H := ck_r H
 refine GoQ.last1 rfl Qs (ef_store rfl rfl rfl Qw upd_st1 Qh rfl) (Qd _ _ _ _ _ Qk (Qm _)) ?_
 refine GoP.leD (Le.reH Qw (Jj (g' := nth [.v (.int .i64 (((s.old.getD ((((s.old.length : Nat) : Int) - 1).toNat) El.d).net).n)), .v (.int .i64 (((s.old.getD ((((s.old.length : Nat) : Int) - 1).toNat) El.d).net).s)), .v (.int .i64 (((s.old.getD ((((s.old.length : Nat) : Int) - 1).toNat) El.d).net).t)), slD (((s.old.getD ((((s.old.length : Nat) : Int) - 1).toNat) El.d).net).as), slD ((s.old.getD ((((s.old.length : Nat) : Int) - 1).toNat) El.d).flow), .own (⟨βs_1.b, βs_1.o + (0 + 0) * 5, βs_1.s - (0 + 0)⟩ : BK) 5 0 ((((s.old.length : Nat) : Int) - 1).toNat), .own βs_2 1 0 s.names.length, .own βs_3 5 0 s.saved.length]) ⟨⟨⟨⟨⟨⟨⟨⟨Qs, Qb _⟩, Qb _⟩, Qb _⟩, Qb _⟩, Qb _⟩, DLe.shiftR⟩, Qb _⟩, Qb _⟩)) ?_
 refine GoP.leD (Le.shiftRow (r := 0 + 0) (len := ((((s.old.length : Nat) : Int) - 1).toNat)) Js (by have hz := c8; simp only [row_len]; omega)) ?_
 refine GoP.leD (Le.reH Js (HLe.part (xs := s.old) (r := 0 + 0) (len := ((((s.old.length : Nat) : Int) - 1).toNat)) (by have hz := c8; omega))) ?_
 generalize (⟨βs_1.b, βs_1.o + (0 + 0) * 5, βs_1.s - (0 + 0)⟩ : BK) = β7
 refine GoP.done ?_
 refine Qe (Qj (Qc ?_))
 refine Qa (Qi rfl rfl) ?_
 refine Qa (Qi rfl rfl) ?_
 refine Qo (Qe ?_)
 refine GoC.le (Le.reH Qw (Jj (g' := nth [.v (.int .i64 (((s.old.getD ((((s.old.length : Nat) : Int) - 1).toNat) El.d).net).n)), .v (.int .i64 (((s.old.getD ((((s.old.length : Nat) : Int) - 1).toNat) El.d).net).s)), .v (.int .i64 (((s.old.getD ((((s.old.length : Nat) : Int) - 1).toNat) El.d).net).t)), slD (((s.old.getD ((((s.old.length : Nat) : Int) - 1).toNat) El.d).net).as), slD ((s.old.getD ((((s.old.length : Nat) : Int) - 1).toNat) El.d).flow), .own β7 5 0 ((subl s.old 0 ((((s.old.length : Nat) : Int) - 1).toNat)).length), .own βs_2 1 0 s.names.length, .own βs_3 5 0 s.saved.length]) ⟨⟨⟨⟨⟨⟨⟨⟨Qs, Qb _⟩, Qb _⟩, Qb _⟩, Qb _⟩, Qb _⟩, Jp (by first | rfl | omega | (simp only [row_len, gridC_len, rowO_len, subl_length] <;> first | rfl | omega))⟩, Qb _⟩, Qb _⟩)) ?_
 obtain rfl := Qf H
 exact Jh (ds := [.v (.int .i64 0), .v (.int .i64 0)]) Tryd.results61 (Qt (Qv rfl) (Qt (Qv rfl) (Je))) (Qd _ _ _ _ _ Qk (Qd _ _ _ _ _ Qk (Qd _ _ _ _ _ Qk (Qd _ _ _ _ _ Qk (Qm _))))) ⟨β7, βs_2, βs_3, rfl, rfl⟩
def store_name_B1 (text : ByteArray) : Nat → Unit → Option (Ct (Unit) (Int)) := fun k8 _ =>
 if (((bytesL text).getD k8 El.d).v) < 97 then
  some (.ret 3)
 else
  if 122 < (((bytesL text).getD k8 El.d).v) then
   some (.ret 3)
  else
   some (.go ())
def store_name_F (text : ByteArray) : Option (Int) :=
 if ((text.size : Nat) : Int) < 1 then
  some 3
 else
  if 8 < ((text.size : Nat) : Int) then
   some 3
  else
   ck (text.size ≤ 1000) <|
   (forC (store_name_B1 text) ((bytesL text).length) 0 ()).bind fun q => match q with
   | .go _ =>
    some 0
   | .ret x => some x
def store_name_P (out : Int) (d : D) (H : List HL) : Prop := d = .v (.int .i64 out) ∧ H = []
theorem store_name_I (out : Int) : IndepP (store_name_P out) := IndepP.of (by rintro _ _ ⟨rfl, rfl⟩; exact ⟨inferInstance, inferInstance⟩)
set_option maxRecDepth 100000 in
set_option maxHeartbeats 4000000 in
theorem store_name_spec (text : ByteArray) {out : Int} (H : store_name_F text = some out) : Does Tryd.prog 84 [.v (.string text)] [] (store_name_P out) := by
 unfold store_name_F at H
 refine Does.intro Tryd.func84 rfl Tryd.ntmps84 rfl fun w0 I0 tb0 => ?_
 refine Qj (Qc ?_)
 refine Qa (Qi rfl rfl) ?_
 refine Qo (Qe (Qj (Qj (Qc ?_))))
 refine Qa (Ql rfl rfl) ?_
 refine Qa (ps_lenS rfl rfl) ?_
 refine Qa (ps_lss rfl rfl rfl) ?_
 refine Qa (Ql rfl rfl) ?_
 refine GoO.guardE rfl rfl rfl rfl (fun h1 => ?_) (fun h1 => ?_)
 replace H := Ju h1 H
 refine Qa (Ql rfl rfl) ?_
 refine Jl rfl rfl rfl ?_
 refine Qa (ps_lenS rfl rfl) ?_
 refine Jl rfl rfl rfl ?_
 refine Qa (ps_gtr rfl rfl rfl) ?_
 refine Qa (ps_pickF rfl rfl rfl) ?_
 refine Qo (Qe ?_)
 refine Jc rfl (fun h2 => ?_) (fun h2 => ?_)
 replace H := Jt h2 H
 refine Qj (Qc ?_)
 refine Qa (Qi rfl rfl) ?_
 refine Qo (Qe ?_)
 obtain rfl := Qf H
 exact Jh (ds := [.v (.int .i64 3)]) Tryd.results84 (Qt (Qv rfl) (Je)) (Qm _) ⟨rfl, rfl⟩
 replace H := Ju h2 H
 refine Jg (Qe (Qj (Qj (Qc ?_))))
 refine Qa (Ql rfl rfl) ?_
 have c3 := ck_l H; replace H := ck_r H
 refine GoO.bytes rfl c3 rfl ?_
 refine Qa (ps_len rfl (by constructor) rfl) ?_
 refine GoO.lenLe (n := (bytesL text).length) (x := .tmp 14) rfl (by constructor) sl_lenLe (fun ml4 => ?_)
 refine Qa (Ql rfl rfl) ?_
 refine Qo (Qe ?_)
 have hb := Jd H; clear H
 obtain ⟨q7, hl12, HK5⟩ := hb
 refine GoC.blockJ [] [] (fun v h => q7 = .go () ∧ v = [] ∧ h = []) ?_ ?_
 refine GoC.loopJ [(14, _), (15, _)] [] (fun mQ v h => ∃ (k8 : Nat), (k8 + mQ = (bytesL text).length ∧ forC (store_name_B1 text) mQ k8 () = some q7) ∧ v = [(16, .v (.int .i64 ((k8 : Nat) : Int)))] ∧ h = []) ((bytesL text).length) ⟨_, ⟨by omega, hl12⟩, rfl, rfl⟩ (Qg rfl (Qg rfl (Qg rfl (Qy)))) (Jb _) ?_
 rintro m9 v h ⟨k8, ⟨hkk8, hF6⟩, rfl, rfl⟩
 refine Qj (Qc ?_)
 refine Qa (ps_lss rfl rfl rfl) ?_
 refine Qo (Qe (Qj ?_))
 refine Jc rfl (fun (hk8 : (k8 : Int) < (((bytesL text).length : Nat) : Int)) => ?_) (fun (hk8 : ¬ (k8 : Int) < (((bytesL text).length : Nat) : Int)) => ?_)
 obtain ⟨m9', rfl⟩ : ∃ x, m9 = x + 1 := ⟨m9 - 1, by omega⟩
 have hb := Jd hF6; clear hF6
 obtain ⟨qrm9, H, hF6⟩ := hb
 have hnk8 : k8 < (bytesL text).length := by omega
 have hIk8 : InI ((k8 : Int) + 1) := inI_len hk8 ml4
 refine Jg (Qe (Qj (GoC.block (Qj (Qc ?_)))))
 refine Qa (ps_indexAddrRN rfl rfl hnk8 rfl) ?_
 refine Qa (ps_loadR rfl hnk8 rfl rfl) ?_
 refine Qa (Qi rfl rfl) ?_
 refine Qo (Qe (Qj (Qc ?_)))
 refine Qa (Ql rfl rfl) ?_
 refine Qa (ps_lss rfl rfl rfl) ?_
 refine Qa (Ql rfl rfl) ?_
 refine GoO.guardE rfl rfl rfl rfl (fun h10 => ?_) (fun h10 => ?_)
 replace H := Ju h10 H
 refine Qa (Ql rfl rfl) ?_
 refine Jl rfl rfl rfl ?_
 refine Qa (ps_gtr rfl rfl rfl) ?_
 refine Qa (ps_pickF rfl rfl rfl) ?_
 refine Qo (Qe ?_)
 refine Jc rfl (fun h11 => ?_) (fun h11 => ?_)
 replace H := Jt h11 H
 refine Qj (Qc ?_)
 refine Qa (Qi rfl rfl) ?_
 refine Qo (Qe ?_)
 obtain rfl := Qf H
 obtain rfl := Qf hF6
 obtain rfl := Qf HK5
 exact Jh (ds := [.v (.int .i64 3)]) Tryd.results84 (Qt (Qv rfl) (Je)) (Qm _) ⟨rfl, rfl⟩
 replace H := Ju h11 H
 refine Jg (GoK.blk (Qe (Qc ?_)))
 refine Qa (ps_add rfl rfl rfl hIk8) ?_
 refine Qa (Ql rfl rfl) ?_
 refine Qo ?_
 obtain rfl := Qf H
 exact GoK.againJ m9' (by omega) ⟨_, ⟨by omega, hF6⟩, rfl, rfl⟩ (Qg rfl (Qg rfl (Qg rfl (Qy)))) (Jb _)
 replace H := Jt h10 H
 refine Ja rfl rfl rfl rfl ?_
 refine Qa (ps_pickT rfl rfl rfl) ?_
 refine Qo (Qe ?_)
 refine GoC.condT rfl ?_
 refine Qj (Qc ?_)
 refine Qa (Qi rfl rfl) ?_
 refine Qo (Qe ?_)
 obtain rfl := Qf H
 obtain rfl := Qf hF6
 obtain rfl := Qf HK5
 exact Jh (ds := [.v (.int .i64 3)]) Tryd.results84 (Qt (Qv rfl) (Je)) (Qm _) ⟨rfl, rfl⟩
 obtain rfl : m9 = 0 := by omega
 refine GoC.exit rfl ?_
 cases hF6
 exact Jr ⟨rfl, rfl, rfl⟩ (Qy) (Jb _)
 rintro v h ⟨rfl, rfl, rfl⟩
 have H := HK5; clear HK5
 refine Qe (Qj (Qc ?_))
 refine Qa (Qi rfl rfl) ?_
 refine Qo (Qe ?_)
 obtain rfl := Qf H
 exact Jh (ds := [.v (.int .i64 0)]) Tryd.results84 (Qt (Qv rfl) (Je)) (Qm _) ⟨rfl, rfl⟩
 replace H := Jt h1 H
 refine Ja rfl rfl rfl rfl ?_
 refine Ja rfl rfl rfl rfl ?_
 refine Qa (ps_pickT rfl rfl rfl) ?_
 refine Qo (Qe ?_)
 refine GoC.condT rfl ?_
 refine Qj (Qc ?_)
 refine Qa (Qi rfl rfl) ?_
 refine Qo (Qe ?_)
 obtain rfl := Qf H
 exact Jh (ds := [.v (.int .i64 3)]) Tryd.results84 (Qt (Qv rfl) (Je)) (Qm _) ⟨rfl, rfl⟩
def store_save_F (s : Store) (text : ByteArray) : Option (Int × Int × Store) :=
 (store_name_F text).bind fun r1 =>
 if r1 ≠ 0 then
  some (0, r1, s)
 else
  (slices_Index_string_F s.names text).bind fun r4 =>
  if 0 ≤ r4 then
   ck (0 ≤ r4 ∧ r4 < ((s.saved.length : Nat) : Int)) <|
   some (0, 0, (⟨s.now, s.old, s.names, (s.saved.set r4.toNat s.now)⟩ : Store))
  else
   if ((s.names.length : Nat) : Int) = 4 then
    some (0, 11, s)
   else
    ck (s.names.length + 1 ≤ 8796093022208) <|
    ck (s.saved.length + 1 ≤ 1954687338268) <|
    some (0, 0, (⟨s.now, s.old, (s.names ++ ([text] : List ByteArray)), (s.saved ++ ([s.now] : List StoreState))⟩ : Store))
def store_save_P (out : Int × Int × Store) (βs : BK) (βs_1 : BK) (βs_2 : BK) (βs_3 : BK) (d : D) (H : List HL) : Prop := ∃ βx1 βx2 βx3 : BK, d = .tp 2 (nth [.v (.int .i64 out.1), .v (.int .i64 out.2.1)]) ∧ H = [.one βs 48 8 (st1 (nth [.v (.int .i64 out.2.2.now.net.n), .v (.int .i64 out.2.2.now.net.s), .v (.int .i64 out.2.2.now.net.t), slD out.2.2.now.net.as, slD out.2.2.now.flow, .own βx1 5 0 out.2.2.old.length, .own βx2 1 0 out.2.2.names.length, .own βx3 5 0 out.2.2.saved.length])), .one βx1 45 5 (row out.2.2.old), .one βx2 9 1 (row out.2.2.names), .one βx3 45 5 (row out.2.2.saved)]
set_option maxRecDepth 100000 in
set_option maxHeartbeats 4000000 in
theorem store_save_spec (s : Store) (text : ByteArray) (βs : BK) (βs_1 : BK) (βs_2 : BK) (βs_3 : BK) {out : Int × Int × Store} (H : store_save_F s text = some out) : Does Tryd.prog 62 [.ptr βs 8 0 0, .v (.string text)] [.one βs 48 8 (st1 (nth [.v (.int .i64 s.now.net.n), .v (.int .i64 s.now.net.s), .v (.int .i64 s.now.net.t), slD s.now.net.as, slD s.now.flow, .own βs_1 5 0 s.old.length, .own βs_2 1 0 s.names.length, .own βs_3 5 0 s.saved.length])), .one βs_1 45 5 (row s.old), .one βs_2 9 1 (row s.names), .one βs_3 45 5 (row s.saved)] (store_save_P out βs βs_1 βs_2 βs_3) := by
 unfold store_save_F at H
 refine Does.intro Tryd.func62 rfl Tryd.ntmps62 rfl fun w0 I0 tb0 => ?_
 refine Qj (Qc ?_)
 refine Qa (Qi rfl rfl) ?_
 refine Qa (Qi rfl rfl) ?_
 refine Qo (Qe (Qj (Qj (Qc ?_))))
 refine Qa (Ql rfl rfl) ?_
 have hb := Jd H; clear H
 obtain ⟨r1, e2, H⟩ := hb
 refine GoO.effC (ef_call rfl (Qm _) (Qm _) (store_name_spec text e2) (Qq (Qp _ _) (Qz)) rfl (store_name_I (r1))) (fun rr HH hp => ?_)
 obtain ⟨rfl, rfl⟩ := hp
 refine Qa (Qi rfl rfl) ?_
 refine Qo (Qe (Qj (Qc ?_)))
 refine Qa (Ql rfl rfl) ?_
 refine Qa (ps_neq rfl rfl rfl) ?_
 refine Qo (Qe ?_)
 refine Jc rfl (fun h3 => ?_) (fun h3 => ?_)
 replace H := Jt h3 H
 refine Qj (Qc ?_)
 refine Qa (Ql rfl rfl) ?_
 refine Qa (Qi rfl rfl) ?_
 refine Qa (Qi rfl rfl) ?_
 refine Qo (Qe ?_)
 obtain rfl := Qf H
 exact Jh (ds := [.v (.int .i64 0), .v (.int .i64 r1)]) Tryd.results62 (Qt (Qv rfl) (Qt (Qv rfl) (Je))) (Qd _ _ _ _ _ Qk (Qd _ _ _ _ _ Qk (Qd _ _ _ _ _ Qk (Qd _ _ _ _ _ Qk (Qm _))))) ⟨βs_1, βs_2, βs_3, rfl, rfl⟩
 replace H := Ju h3 H
 refine Jg (Qe (Qj (Qj (Qc ?_))))
 refine Qa (Ql rfl rfl) ?_
 refine Qa (ps_nilCheck rfl rfl) ?_
 refine Qa (Qu rfl rfl) ?_
 refine Qa (Jf rfl Qw Qw Qh rfl rfl) ?_
 refine Qa (Ql rfl rfl) ?_
 have hb := Jd H; clear H
 obtain ⟨r4, e5, H⟩ := hb
 refine GoO.effC (ef_call rfl (Qm _) (Qd _ _ _ _ _ Rem.p2 (Qm _)) (slices_Index_string_spec s.names text e5) (Qq (Lend.all' Qw (by first | rfl | omega | (simp only [szl] <;> first | rfl | omega)) rfl) (Qq (Qp _ _) (Qz))) rfl (slices_Index_string_I (r4))) (fun rr HH hp => ?_)
 obtain ⟨rfl, rfl⟩ := hp
 refine Qa (Qi rfl rfl) ?_
 refine Qo (Qe (Qj (Qc ?_)))
 refine Qa (Ql rfl rfl) ?_
 refine Qa (ps_geq rfl rfl rfl) ?_
 refine Qo (Qe ?_)
 refine Jc rfl (fun h6 => ?_) (fun h6 => ?_)
 replace H := Jt h6 H
 refine Qj ?_
 refine GoC.drawQ (.q 0 (.q 1 (.q 2 (.q 3 (.q 4 (.q 5 (.q 6 (.q 7 (.q 8 (.q 9 (.one 10 (.done)))))))))))) 10 follows (by kernel_rfl) ?_
 refine Jo rfl rfl (Ql rfl rfl) ?_
 refine Jo rfl rfl (ps_nilCheck rfl rfl) ?_
 refine Jo rfl rfl (Qu rfl rfl) ?_
 refine GoQ.qN rfl (by kernel_rfl) (Jf rfl Qw Qw Qh rfl rfl) ?_
 refine Jo rfl rfl (Ql rfl rfl) ?_
 refine Jo rfl rfl (Ql rfl rfl) ?_
 refine Jo rfl rfl (ps_nilCheck rfl rfl) ?_
 refine Jo rfl rfl (Qu rfl rfl) ?_
 refine GoQ.qN rfl (by kernel_rfl) (ps_loadAg rfl Qw Qw Qh rfl rfl) ?_
 have c7 := ck_l H; replace H := ck_r H
 refine Jo rfl rfl (ps_indexAddr0 rfl rfl c7 rfl) ?_
 refine GoQ.last1 rfl Qs (ef_storeAg rfl rfl At.p3 (upd_rowN (v := s.now) ⟨⟨⟨⟨⟨Qs, rfl⟩, rfl⟩, rfl⟩, rfl⟩, rfl⟩) (idx_lt c7) rfl) (Qd _ _ _ _ _ Rem.p3 (Qm _)) ?_
 refine GoP.done ?_
 refine Qe (Qj (Qc ?_))
 refine Qa (Qi rfl rfl) ?_
 refine Qa (Qi rfl rfl) ?_
 refine Qo (Qe ?_)
 refine GoC.le (Le.reH Qw (Jj (g' := nth [.v (.int .i64 s.now.net.n), .v (.int .i64 s.now.net.s), .v (.int .i64 s.now.net.t), slD s.now.net.as, slD s.now.flow, .own βs_1 5 0 s.old.length, .own βs_2 1 0 s.names.length, .own βs_3 5 0 ((s.saved.set r4.toNat s.now).length)]) ⟨⟨⟨⟨⟨⟨⟨⟨Qs, Qb _⟩, Qb _⟩, Qb _⟩, Qb _⟩, Qb _⟩, Qb _⟩, Qb _⟩, Jp (by first | rfl | omega | (simp only [row_len, gridC_len, rowO_len, List.length_set] <;> first | rfl | omega))⟩)) ?_
 obtain rfl := Qf H
 exact Jh (ds := [.v (.int .i64 0), .v (.int .i64 0)]) Tryd.results62 (Qt (Qv rfl) (Qt (Qv rfl) (Je))) (Qd _ _ _ _ _ Qk (Qd _ _ _ _ _ Qk (Qd _ _ _ _ _ Qk (Qd _ _ _ _ _ Qk (Qm _))))) ⟨βs_1, βs_2, βs_3, rfl, rfl⟩
 replace H := Ju h6 H
 refine Jg (Qe (Qj (Qj (Qc ?_))))
 refine Qa (Ql rfl rfl) ?_
 refine Qa (ps_nilCheck rfl rfl) ?_
 refine Qa (Qu rfl rfl) ?_
 refine Qa (Jf rfl Qw Qw Qh rfl rfl) ?_
 refine Qa (ps_len rfl (by constructor) rfl) ?_
 refine GoO.lenLe (n := s.names.length) (x := .tmp 34) rfl (by constructor) own_lenLe (fun ml8 => ?_)
 refine Qa (ps_eql rfl rfl rfl) ?_
 refine Qo (Qe ?_)
 refine Jc rfl (fun h9 => ?_) (fun h9 => ?_)
 replace H := Jt h9 H
 refine Qj (Qc ?_)
 refine Qa (Qi rfl rfl) ?_
 refine Qa (Qi rfl rfl) ?_
 refine Qo (Qe ?_)
 obtain rfl := Qf H
 exact Jh (ds := [.v (.int .i64 0), .v (.int .i64 11)]) Tryd.results62 (Qt (Qv rfl) (Qt (Qv rfl) (Je))) (Qd _ _ _ _ _ Qk (Qd _ _ _ _ _ Qk (Qd _ _ _ _ _ Qk (Qd _ _ _ _ _ Qk (Qm _))))) ⟨βs_1, βs_2, βs_3, rfl, rfl⟩
 replace H := Ju h9 H
 refine Jg (Qe (Qj ?_))
 refine GoC.drawQH (.q 0 (.q 1 (.q 2 (.q 3 (.q 4 (.q 5 (.q 6 (.q 9 (.q 10 (.q 11 (.q 12 (.q 13 (.q 14 (.q 15 (.q 16 (.two 7 17 (.two 8 17 (.one 17 (.one 18 (.q 19 (.q 20 (.one 21 (.q 22 (.q 23 (.one 24 (.done))))))))) (.one 8 (.one 18 (.q 19 (.q 20 (.one 21 (.q 22 (.q 23 (.one 24 (.done)))))))))) (.one 7 (.one 8 (.one 18 (.q 19 (.q 20 (.one 21 (.q 22 (.q 23 (.one 24 (.done)))))))))))))))))))))))))) 21 [.one βs 48 8 (st1 (nth [.v (.int .i64 s.now.net.n), .v (.int .i64 s.now.net.s), .v (.int .i64 s.now.net.t), slD s.now.net.as, slD s.now.flow, .own βs_1 5 0 s.old.length, .own βs_2 1 0 s.names.length, .own βs_3 5 0 s.saved.length]))] follows (by kernel_rfl) (Qd _ _ _ _ _ Qk (Qm _)) ?_
 refine Jo rfl rfl (Ql rfl rfl) ?_
 refine Jo rfl rfl (Ql rfl rfl) ?_
 refine Jo rfl rfl (Ql rfl rfl) ?_
 refine Jo rfl rfl (ps_nilCheck rfl rfl) ?_
 refine Jo rfl rfl (Qu rfl rfl) ?_
 refine GoQ.qN rfl (by kernel_rfl) (Jf rfl Qw Qw Qh rfl rfl) ?_
 refine Jo rfl rfl (Ql rfl rfl) ?_
 refine Jo rfl rfl (Ql rfl rfl) ?_
 refine Jo rfl rfl (ps_nilCheck rfl rfl) ?_
 refine Jo rfl rfl (Qu rfl rfl) ?_
 refine GoQ.qN rfl (by kernel_rfl) (Jf rfl Qw Qw Qh rfl rfl) ?_
 refine Jo rfl rfl (Ql rfl rfl) ?_
 refine Jo rfl rfl (ps_nilCheck rfl rfl) ?_
 refine Jo rfl rfl (Qu rfl rfl) ?_
 refine GoQ.qN rfl (by kernel_rfl) (ps_loadAg rfl Qw Qw Qh rfl rfl) ?_
 have c12 := ck_l H; replace H := ck_r H
 have c15 := ck_l H; replace H := ck_r H
 apply GoQ.fork4
 exact rfl
 exact rfl
 exact rfl
 exact rfl
 exact Qs
 exact Qs
 exact ef_buildSlice (row ([text] : List ByteArray)) rfl (Jn _ _ _ _ _ _ _ _ ⟨rfl, rfl⟩ (Part.one _ rfl rfl) rfl rfl (Parts.nil _)) rfl rfl rfl rfl
 exact ef_buildSlice (row ([s.now] : List StoreState)) rfl (Jn _ _ _ _ _ _ _ _ ⟨rfl, rfl⟩ (Part.ag _ _ rfl) rfl rfl (Parts.nil _)) rfl rfl rfl rfl
 exact (Qd _ _ _ _ _ Qk (Qm _))
 exact (Qd _ _ _ _ _ Qk (Qm _))
 intro hQ
 rintro _ ⟨β16, rfl⟩
 apply GoQ.fork3
 exact rfl
 exact rfl
 exact rfl
 exact rfl
 exact Qs
 exact Qs
 exact ef_append rfl rfl Rem.p3 (Src.own Qw (by first | omega | (simp only [szl]; omega) | (simp only [szl]; done))) (cat_row (α := ByteArray) (by first | rfl | omega | (simp only [szl] <;> first | rfl | omega)) (by first | rfl | omega | (simp only [szl] <;> first | rfl | omega)) (fun _ _ _ _ => rfl)) (by first | omega | (simp only [szl]; omega) | (simp only [szl]; done)) (app_le c12 rfl) rfl rfl rfl
 exact ef_buildSlice (row ([s.now] : List StoreState)) rfl (Jn _ _ _ _ _ _ _ _ ⟨rfl, rfl⟩ (Part.ag _ _ rfl) rfl rfl (Parts.nil _)) rfl rfl rfl rfl
 exact (Qd _ _ _ _ _ Rem.p3 (Qd _ _ _ _ _ Jk (Qm _)))
 exact (Qd _ _ _ _ _ Jk (Qm _))
 intro hQ
 rintro _ ⟨β21, rfl⟩
 refine GoQ.oneB rfl rfl Qs (ef_buildSlice (row ([s.now] : List StoreState)) rfl (Jn _ _ _ _ _ _ _ _ ⟨rfl, rfl⟩ (Part.ag _ _ rfl) rfl rfl (Parts.nil _)) rfl rfl rfl rfl) (Qd _ _ _ _ _ Rem.p2 (Qm _)) (fun β23 => ?_)
 refine GoQ.oneB rfl rfl Qs (ef_append rfl rfl Rem.p5 (Src.own Qw (by first | omega | (simp only [szl]; omega) | (simp only [szl]; done))) (cat_row (α := StoreState) (by first | rfl | omega | (simp only [szl] <;> first | rfl | omega)) (by first | rfl | omega | (simp only [szl] <;> first | rfl | omega)) (fun _ _ _ _ => rfl)) (by first | omega | (simp only [szl]; omega) | (simp only [szl]; done)) (app_le c15 rfl) rfl rfl rfl) (Qd _ _ _ _ _ Rem.p5 (Qd _ _ _ _ _ Rem.p3 (Qm _))) (fun β24 => ?_)
 refine Jo rfl rfl (ps_nilCheck rfl rfl) ?_
 refine Jo rfl rfl (Qu rfl rfl) ?_
 refine GoQ.last1 rfl Qs (ef_store rfl rfl rfl At.p4 upd_st1 Qh rfl) (Qd _ _ _ _ _ Rem.p4 (Qm _)) ?_
 refine Qx rfl (ps_nilCheck rfl rfl) ?_
 refine Qx rfl (Qu rfl rfl) ?_
 refine GoP.one1 rfl Qs (ef_store rfl rfl rfl At.p4 upd_st1 Qh rfl) (Qd _ _ _ _ _ Rem.p4 (Qm _)) ?_
 exact GoP.done (hQ β21 β23 β24)
 intro hQ
 rintro _ ⟨β22, rfl⟩
 refine GoQ.oneB rfl rfl Qs (ef_append rfl rfl Rem.p4 (Src.own Js (by first | omega | (simp only [szl]; omega) | (simp only [szl]; done))) (cat_row (α := ByteArray) (by first | rfl | omega | (simp only [szl] <;> first | rfl | omega)) (by first | rfl | omega | (simp only [szl] <;> first | rfl | omega)) (fun _ _ _ _ => rfl)) (by first | omega | (simp only [szl]; omega) | (simp only [szl]; done)) (app_le c12 rfl) rfl rfl rfl) (Qd _ _ _ _ _ Rem.p4 (Qd _ _ _ _ _ Rem.p2 (Qm _))) (fun β25 => ?_)
 refine GoQ.oneB rfl rfl Qs (ef_append rfl rfl Rem.p5 (Src.own Js (by first | omega | (simp only [szl]; omega) | (simp only [szl]; done))) (cat_row (α := StoreState) (by first | rfl | omega | (simp only [szl] <;> first | rfl | omega)) (by first | rfl | omega | (simp only [szl] <;> first | rfl | omega)) (fun _ _ _ _ => rfl)) (by first | omega | (simp only [szl]; omega) | (simp only [szl]; done)) (app_le c15 rfl) rfl rfl rfl) (Qd _ _ _ _ _ Rem.p5 (Qd _ _ _ _ _ Rem.p3 (Qm _))) (fun β26 => ?_)
 refine Jo rfl rfl (ps_nilCheck rfl rfl) ?_
 refine Jo rfl rfl (Qu rfl rfl) ?_
 refine GoQ.last1 rfl Qs (ef_store rfl rfl rfl At.p4 upd_st1 Qh rfl) (Qd _ _ _ _ _ Rem.p4 (Qm _)) ?_
 refine Qx rfl (ps_nilCheck rfl rfl) ?_
 refine Qx rfl (Qu rfl rfl) ?_
 refine GoP.one1 rfl Qs (ef_store rfl rfl rfl At.p4 upd_st1 Qh rfl) (Qd _ _ _ _ _ Rem.p4 (Qm _)) ?_
 refine GoP.done (GoK.le ?_ (hQ β25 β22 β26))
 refine Le.ofDW ?_ (Qn _ _ _ _ _ Qk (Qr _) (Qn _ _ _ _ _ Jk (Qr _) (Qn _ _ _ _ _ Qk (Qr _) (Qn _ _ _ _ _ Qk (Qr _) (Qn _ _ _ _ _ Qk (Qr _) (Qn _ _ _ _ _ Qk (Qr _) (Jb _)))))))
 repeat (first | exact EnvLeW.nil | refine EnvLeW.cons rfl ?_ | refine EnvLeW.skip rfl ?_)
 intro β21 β23 β24
 exact (hQ β16 β21 β23 β24)
 intro hQ
 rintro _ ⟨β17, rfl⟩
 refine GoQ.oneB rfl rfl Qs (ef_buildSlice (row ([text] : List ByteArray)) rfl (Jn _ _ _ _ _ _ _ _ ⟨rfl, rfl⟩ (Part.one _ rfl rfl) rfl rfl (Parts.nil _)) rfl rfl rfl rfl) (Qd _ _ _ _ _ Jk (Qm _)) (fun β27 => ?_)
 refine GoQ.oneB rfl rfl Qs (ef_append rfl rfl Rem.p4 (Src.own Qw (by first | omega | (simp only [szl]; omega) | (simp only [szl]; done))) (cat_row (α := ByteArray) (by first | rfl | omega | (simp only [szl] <;> first | rfl | omega)) (by first | rfl | omega | (simp only [szl] <;> first | rfl | omega)) (fun _ _ _ _ => rfl)) (by first | omega | (simp only [szl]; omega) | (simp only [szl]; done)) (app_le c12 rfl) rfl rfl rfl) (Qd _ _ _ _ _ Rem.p4 (Qd _ _ _ _ _ Rem.p2 (Qm _))) (fun β28 => ?_)
 refine GoQ.oneB rfl rfl Qs (ef_append rfl rfl Rem.p5 (Src.own At.p2 (by first | omega | (simp only [szl]; omega) | (simp only [szl]; done))) (cat_row (α := StoreState) (by first | rfl | omega | (simp only [szl] <;> first | rfl | omega)) (by first | rfl | omega | (simp only [szl] <;> first | rfl | omega)) (fun _ _ _ _ => rfl)) (by first | omega | (simp only [szl]; omega) | (simp only [szl]; done)) (app_le c15 rfl) rfl rfl rfl) (Qd _ _ _ _ _ Rem.p5 (Qd _ _ _ _ _ Rem.p3 (Qm _))) (fun β29 => ?_)
 refine Jo rfl rfl (ps_nilCheck rfl rfl) ?_
 refine Jo rfl rfl (Qu rfl rfl) ?_
 refine GoQ.last1 rfl Qs (ef_store rfl rfl rfl At.p4 upd_st1 Qh rfl) (Qd _ _ _ _ _ Rem.p4 (Qm _)) ?_
 refine Qx rfl (ps_nilCheck rfl rfl) ?_
 refine Qx rfl (Qu rfl rfl) ?_
 refine GoP.one1 rfl Qs (ef_store rfl rfl rfl At.p4 upd_st1 Qh rfl) (Qd _ _ _ _ _ Rem.p4 (Qm _)) ?_
 refine GoP.done (GoK.le ?_ (hQ β27 β28 β17 β29))
 refine Le.ofDW ?_ (Qn _ _ _ _ _ Qk (Qr _) (Qn _ _ _ _ _ Rem.p2 (Qr _) (Qn _ _ _ _ _ Qk (Qr _) (Qn _ _ _ _ _ Qk (Qr _) (Qn _ _ _ _ _ Qk (Qr _) (Qn _ _ _ _ _ Qk (Qr _) (Jb _)))))))
 repeat (first | exact EnvLeW.nil | refine EnvLeW.cons rfl ?_ | refine EnvLeW.skip rfl ?_)
 intro β16 β21 β23 β24
 refine Qe (Qj (Qc ?_))
 refine Qa (Qi rfl rfl) ?_
 refine Qa (Qi rfl rfl) ?_
 refine Qo (Qe ?_)
 refine GoC.le (Le.reH At.p4 (Jj (g' := nth [.v (.int .i64 s.now.net.n), .v (.int .i64 s.now.net.s), .v (.int .i64 s.now.net.t), slD s.now.net.as, slD s.now.flow, .own βs_1 5 0 s.old.length, .own β21 1 0 ((s.names ++ ([text] : List ByteArray)).length), .own β24 5 0 ((s.saved ++ ([s.now] : List StoreState)).length)]) ⟨⟨⟨⟨⟨⟨⟨⟨Qs, Qb _⟩, Qb _⟩, Qb _⟩, Qb _⟩, Qb _⟩, Qb _⟩, Jp (by first | rfl | omega | (simp only [row_len, gridC_len, rowO_len, List.length_append, List.length_cons, List.length_nil] <;> first | rfl | omega))⟩, Jp (by first | rfl | omega | (simp only [row_len, gridC_len, rowO_len, List.length_append, List.length_cons, List.length_nil] <;> first | rfl | omega))⟩)) ?_
 obtain rfl := Qf H
 exact Jh (ds := [.v (.int .i64 0), .v (.int .i64 0)]) Tryd.results62 (Qt (Qv rfl) (Qt (Qv rfl) (Je))) (Qd _ _ _ _ _ Rem.p4 (Qd _ _ _ _ _ Rem.p4 (Qd _ _ _ _ _ Rem.p2 (Qd _ _ _ _ _ Qk (Qm _))))) ⟨βs_1, β21, β24, rfl, rfl⟩
def store_load_F (s : Store) (text : ByteArray) : Option (Int × Int × Store) :=
 (store_name_F text).bind fun r1 =>
 if r1 ≠ 0 then
  some (0, r1, s)
 else
  (slices_Index_string_F s.names text).bind fun r4 =>
  if r4 < 0 then
   some (0, 5, s)
  else
   ck (0 ≤ r4 ∧ r4 < ((s.saved.length : Nat) : Int)) <|
   (store_set_F s ((s.saved.getD r4.toNat El.d).net) ((s.saved.getD r4.toNat El.d).flow) 0).bind fun (r8, r9, x10) =>
   some (r8, r9, x10)
def store_load_P (out : Int × Int × Store) (βs : BK) (βs_1 : BK) (βs_2 : BK) (βs_3 : BK) (d : D) (H : List HL) : Prop := ∃ βx1 βx2 βx3 : BK, d = .tp 2 (nth [.v (.int .i64 out.1), .v (.int .i64 out.2.1)]) ∧ H = [.one βs 48 8 (st1 (nth [.v (.int .i64 out.2.2.now.net.n), .v (.int .i64 out.2.2.now.net.s), .v (.int .i64 out.2.2.now.net.t), slD out.2.2.now.net.as, slD out.2.2.now.flow, .own βx1 5 0 out.2.2.old.length, .own βx2 1 0 out.2.2.names.length, .own βx3 5 0 out.2.2.saved.length])), .one βx1 45 5 (row out.2.2.old), .one βx2 9 1 (row out.2.2.names), .one βx3 45 5 (row out.2.2.saved)]
set_option maxRecDepth 100000 in
set_option maxHeartbeats 4000000 in
theorem store_load_spec (s : Store) (text : ByteArray) (βs : BK) (βs_1 : BK) (βs_2 : BK) (βs_3 : BK) {out : Int × Int × Store} (H : store_load_F s text = some out) : Does Tryd.prog 63 [.ptr βs 8 0 0, .v (.string text)] [.one βs 48 8 (st1 (nth [.v (.int .i64 s.now.net.n), .v (.int .i64 s.now.net.s), .v (.int .i64 s.now.net.t), slD s.now.net.as, slD s.now.flow, .own βs_1 5 0 s.old.length, .own βs_2 1 0 s.names.length, .own βs_3 5 0 s.saved.length])), .one βs_1 45 5 (row s.old), .one βs_2 9 1 (row s.names), .one βs_3 45 5 (row s.saved)] (store_load_P out βs βs_1 βs_2 βs_3) := by
 unfold store_load_F at H
 refine Does.intro Tryd.func63 rfl Tryd.ntmps63 rfl fun w0 I0 tb0 => ?_
 refine Qj (Qc ?_)
 refine Qa (Qi rfl rfl) ?_
 refine Qa (Qi rfl rfl) ?_
 refine Qo (Qe (Qj (Qj (Qc ?_))))
 refine Qa (Ql rfl rfl) ?_
 have hb := Jd H; clear H
 obtain ⟨r1, e2, H⟩ := hb
 refine GoO.effC (ef_call rfl (Qm _) (Qm _) (store_name_spec text e2) (Qq (Qp _ _) (Qz)) rfl (store_name_I (r1))) (fun rr HH hp => ?_)
 obtain ⟨rfl, rfl⟩ := hp
 refine Qa (Qi rfl rfl) ?_
 refine Qo (Qe (Qj (Qc ?_)))
 refine Qa (Ql rfl rfl) ?_
 refine Qa (ps_neq rfl rfl rfl) ?_
 refine Qo (Qe ?_)
 refine Jc rfl (fun h3 => ?_) (fun h3 => ?_)
 replace H := Jt h3 H
 refine Qj (Qc ?_)
 refine Qa (Ql rfl rfl) ?_
 refine Qa (Qi rfl rfl) ?_
 refine Qa (Qi rfl rfl) ?_
 refine Qo (Qe ?_)
 obtain rfl := Qf H
 exact Jh (ds := [.v (.int .i64 0), .v (.int .i64 r1)]) Tryd.results63 (Qt (Qv rfl) (Qt (Qv rfl) (Je))) (Qd _ _ _ _ _ Qk (Qd _ _ _ _ _ Qk (Qd _ _ _ _ _ Qk (Qd _ _ _ _ _ Qk (Qm _))))) ⟨βs_1, βs_2, βs_3, rfl, rfl⟩
 replace H := Ju h3 H
 refine Jg (Qe (Qj (Qc ?_)))
 refine Qa (Ql rfl rfl) ?_
 refine Qa (ps_nilCheck rfl rfl) ?_
 refine Qa (Qu rfl rfl) ?_
 refine Qa (Jf rfl Qw Qw Qh rfl rfl) ?_
 refine Qa (Ql rfl rfl) ?_
 have hb := Jd H; clear H
 obtain ⟨r4, e5, H⟩ := hb
 refine GoO.effC (ef_call rfl (Qm _) (Qd _ _ _ _ _ Rem.p2 (Qm _)) (slices_Index_string_spec s.names text e5) (Qq (Lend.all' Qw (by first | rfl | omega | (simp only [szl] <;> first | rfl | omega)) rfl) (Qq (Qp _ _) (Qz))) rfl (slices_Index_string_I (r4))) (fun rr HH hp => ?_)
 obtain ⟨rfl, rfl⟩ := hp
 refine Qa (Qi rfl rfl) ?_
 refine Qo (Qe (Qj (Qj (Qc ?_))))
 refine Qa (Ql rfl rfl) ?_
 refine Qa (ps_lss rfl rfl rfl) ?_
 refine Qo (Qe ?_)
 refine Jc rfl (fun h6 => ?_) (fun h6 => ?_)
 replace H := Jt h6 H
 refine Qj (Qc ?_)
 refine Qa (Qi rfl rfl) ?_
 refine Qa (Qi rfl rfl) ?_
 refine Qo (Qe ?_)
 obtain rfl := Qf H
 exact Jh (ds := [.v (.int .i64 0), .v (.int .i64 5)]) Tryd.results63 (Qt (Qv rfl) (Qt (Qv rfl) (Je))) (Qd _ _ _ _ _ Qk (Qd _ _ _ _ _ Qk (Qd _ _ _ _ _ Qk (Qd _ _ _ _ _ Qk (Qm _))))) ⟨βs_1, βs_2, βs_3, rfl, rfl⟩
 replace H := Ju h6 H
 refine Jg (Qe (Qj ?_))
 refine GoC.drawQ (.q 0 (.q 1 (.q 2 (.q 3 (.q 4 (.q 5 (.q 6 (.q 7 (.q 8 (.q 9 (.q 10 (.q 11 (.q 12 (.q 13 (.q 14 (.q 15 (.q 16 (.one 17 (.q 18 (.q 19 (.q 20 (.q 21 (.done))))))))))))))))))))))) 17 follows (by kernel_rfl) ?_
 refine Jo rfl rfl (Ql rfl rfl) ?_
 refine Jo rfl rfl (Ql rfl rfl) ?_
 refine Jo rfl rfl (ps_nilCheck rfl rfl) ?_
 refine Jo rfl rfl (Qu rfl rfl) ?_
 refine GoQ.qN rfl (by kernel_rfl) (Jf rfl Qw Qw Qh rfl rfl) ?_
 refine Jo rfl rfl (Ql rfl rfl) ?_
 have c7 := ck_l H; replace H := ck_r H
 refine Jo rfl rfl (ps_indexAddr0 rfl rfl c7 rfl) ?_
 refine Jo rfl rfl (Qu rfl rfl) ?_
 refine GoQ.qN rfl (by kernel_rfl) (ps_loadAg rfl At.p3 At.p3 (idx_lt c7) rfl rfl) ?_
 refine Jo rfl rfl (Ql rfl rfl) ?_
 refine Jo rfl rfl (ps_nilCheck rfl rfl) ?_
 refine Jo rfl rfl (Qu rfl rfl) ?_
 refine GoQ.qN rfl (by kernel_rfl) (Jf rfl Qw Qw Qh rfl rfl) ?_
 refine Jo rfl rfl (Ql rfl rfl) ?_
 refine Jo rfl rfl (ps_indexAddr0 rfl rfl c7 rfl) ?_
 refine Jo rfl rfl (Qu rfl rfl) ?_
 refine GoQ.qN rfl (by kernel_rfl) (Jf rfl At.p3 At.p3 (idx_lt c7) rfl rfl) ?_
 have hb := Jd H; clear H
 obtain ⟨⟨r8, r9, x10⟩, e11, H⟩ := hb
 refine GoQ.lastCG rfl Qs (ef_callK rfl (Qd _ _ _ _ _ Qk (Qd _ _ _ _ _ Qk (Qd _ _ _ _ _ Qk (Qd _ _ _ _ _ Qk (Qm _))))) (Qm _) (store_set_spec s ((s.saved.getD r4.toNat El.d).net) ((s.saved.getD r4.toNat El.d).flow) 0 βs βs_1 βs_2 βs_3 e11) (Qq (Qp _ _) (Qq (Lend.agA ⟨⟨⟨⟨Qs, Qp _ _⟩, Qp _ _⟩, Qp _ _⟩, Qp _ _⟩) (Qq (Qp _ _) (Qq (Qp _ _) (Qz))))) rfl nil_fps) (Qd _ _ _ _ _ Qk (Qd _ _ _ _ _ Qk (Qd _ _ _ _ _ Qk (Qd _ _ _ _ _ Qk (Qm _))))) (fun rr HH hp => ?_)
 obtain ⟨β12, β13, β14, rfl, rfl⟩ := hp
 refine Qx rfl (Ji rfl rfl rfl) ?_
 refine Qx rfl (Ji rfl rfl rfl) ?_
 refine Qx rfl (Qi rfl rfl) ?_
 refine Qx rfl (Qi rfl rfl) ?_
 refine GoP.done ?_
 refine Qe ?_
 obtain rfl := Qf H
 exact Jh (ds := [.v (.int .i64 r8), .v (.int .i64 r9)]) Tryd.results63 (Qt (Qv rfl) (Qt (Qv rfl) (Je))) (Qd _ _ _ _ _ Qk (Qd _ _ _ _ _ Qk (Qd _ _ _ _ _ Qk (Qd _ _ _ _ _ Qk (Qm _))))) ⟨β12, β13, β14, rfl, rfl⟩
def store_Do_F (s : Store) (d_ : Deed) : Option (Int × Int × Store) :=
 if d_.kind = 1 then
  (graph_CheckNet_F (⟨d_.n, d_.a, d_.b, []⟩ : Net)).bind fun r5 =>
  (store_set_F s (⟨d_.n, d_.a, d_.b, []⟩ : Net) [] r5).bind fun (r7, r8, x9) =>
  some (r7, r8, x9)
 else
  if d_.kind = 2 then
   (repair_Add_F s.now.net s.now.flow (⟨d_.a, d_.b, d_.n⟩ : Arc)).bind fun (r15, r16, r17, r18) =>
   (store_set_F s r15 r16 r18).bind fun (r21, r22, x23) =>
   some (r21, r22, x23)
  else
   if d_.kind = 3 then
    (repair_Cap_F s.now.net s.now.flow d_.a d_.n).bind fun (r29, r30, r31, r32) =>
    (store_set_F s r29 r30 r32).bind fun (r35, r36, x37) =>
    some (r35, r36, x37)
   else
    if d_.kind = 4 then
     (repair_Drop_F s.now.net s.now.flow d_.a).bind fun (r43, r44, r45, r46) =>
     (store_set_F s r43 r44 r46).bind fun (r49, r50, x51) =>
     some (r49, r50, x51)
    else
     if d_.kind = 5 then
      (repair_Ends_F s.now.net s.now.flow d_.a d_.b).bind fun (r57, r58, r59, r60) =>
      (store_set_F s r57 r58 r60).bind fun (r63, r64, x65) =>
      some (r63, r64, x65)
     else
      if d_.kind = 6 then
       (store_undo_F s).bind fun (r71, r72, x73) =>
       some (r71, r72, x73)
      else
       if d_.kind = 7 then
        (store_save_F s d_.name).bind fun (r79, r80, x81) =>
        some (r79, r80, x81)
       else
        if d_.kind = 8 then
         (store_load_F s d_.name).bind fun (r87, r88, x89) =>
         some (r87, r88, x89)
        else
         if d_.kind = 9 then
          (cut_Least_F s.now.net).bind fun (r95, r96, r97) =>
          some (r96, 0, s)
         else
          if d_.kind = 10 then
           (cut_Least_F s.now.net).bind fun (r100, r101, r102) =>
           some ((IntKind.i64.wrap r100), 0, s)
          else
           if d_.kind = 11 then
            some (((s.now.net.as.length : Nat) : Int), 0, s)
           else
            some (0, 1, s)
def store_Do_P (out : Int × Int × Store) (βs : BK) (βs_1 : BK) (βs_2 : BK) (βs_3 : BK) (d : D) (H : List HL) : Prop := ∃ βx1 βx2 βx3 : BK, d = .tp 2 (nth [.v (.int .i64 out.1), .v (.int .i64 out.2.1)]) ∧ H = [.one βs 48 8 (st1 (nth [.v (.int .i64 out.2.2.now.net.n), .v (.int .i64 out.2.2.now.net.s), .v (.int .i64 out.2.2.now.net.t), slD out.2.2.now.net.as, slD out.2.2.now.flow, .own βx1 5 0 out.2.2.old.length, .own βx2 1 0 out.2.2.names.length, .own βx3 5 0 out.2.2.saved.length])), .one βx1 45 5 (row out.2.2.old), .one βx2 9 1 (row out.2.2.names), .one βx3 45 5 (row out.2.2.saved)]
set_option maxRecDepth 100000 in
set_option maxHeartbeats 4000000 in
theorem store_Do_spec (s : Store) (d_ : Deed) (βs : BK) (βs_1 : BK) (βs_2 : BK) (βs_3 : BK) {out : Int × Int × Store} (H : store_Do_F s d_ = some out) : Does Tryd.prog 41 [.ptr βs 8 0 0, .ag 5 (nth [.v (.int .i64 d_.kind), .v (.int .i64 d_.a), .v (.int .i64 d_.b), .v (.int .i64 d_.n), .v (.string d_.name)])] [.one βs 48 8 (st1 (nth [.v (.int .i64 s.now.net.n), .v (.int .i64 s.now.net.s), .v (.int .i64 s.now.net.t), slD s.now.net.as, slD s.now.flow, .own βs_1 5 0 s.old.length, .own βs_2 1 0 s.names.length, .own βs_3 5 0 s.saved.length])), .one βs_1 45 5 (row s.old), .one βs_2 9 1 (row s.names), .one βs_3 45 5 (row s.saved)] (store_Do_P out βs βs_1 βs_2 βs_3) := by
 unfold store_Do_F at H
 refine Does.intro Tryd.func41 rfl Tryd.ntmps41 rfl fun w0 I0 tb0 => ?_
 refine Qj (Qc ?_)
 refine Jq (ef_boxAg rfl rfl) (fun β1 => ?_)
 refine Qa (Qi rfl rfl) ?_
 refine Qa (Qi rfl rfl) ?_
 refine Qo (Qe (Qj ?_))
 refine GoC.drawA (.q 0 (.q 1 (.q 2 (.q 3 (.q 4 (.q 5 (.q 6 (.q 7 (.q 8 (.q 9 (.one 10 (.one 11 (.q 12 (.done)))))))))))))) follows (by kernel_rfl) ?_
 refine Qx rfl (Ql rfl rfl) ?_
 refine Qx rfl (ps_nilCheck rfl rfl) ?_
 refine Qx rfl (Qu rfl rfl) ?_
 refine Qx rfl (Qu rfl rfl) ?_
 refine Qx rfl (ps_loadAg rfl Js Js Qh rfl rfl) ?_
 refine Qx rfl (Ql rfl rfl) ?_
 refine Qx rfl (ps_nilCheck rfl rfl) ?_
 refine Qx rfl (Qu rfl rfl) ?_
 refine Qx rfl (Qu rfl rfl) ?_
 refine Qx rfl (Jf rfl Js Js Qh rfl rfl) ?_
 refine GoP.oneB rfl Qs (ef_alloc rfl) (Qd _ _ _ _ _ Qk (Qd _ _ _ _ _ Qk (Qd _ _ _ _ _ Qk (Qd _ _ _ _ _ Qk (Qd _ _ _ _ _ Qk (Qm _)))))) (fun β2 => ?_)
 refine GoP.one1 rfl Qs (ef_storeAg rfl rfl Qw upd_whole Qh rfl) (Qd _ _ _ _ _ Qk (Qd _ _ _ _ _ Qk (Qd _ _ _ _ _ Qk (Qd _ _ _ _ _ Qk (Qd _ _ _ _ _ Qk (Qd _ _ _ _ _ Qk (Qm _))))))) ?_
 refine Qx rfl (Qi rfl rfl) ?_
 refine GoP.done ?_
 refine Qe (Qj (Qj (Qc ?_)))
 refine Qa (Qu rfl rfl) ?_
 refine Qa (Jf rfl Js Js Qh rfl rfl) ?_
 refine Qo (Qe (GoC.block (Qj (Qc ?_))))
 refine Qa (ps_eql rfl rfl rfl) ?_
 refine Qa (Qi rfl rfl) ?_
 refine Qo (Qe ?_)
 refine Jc rfl (fun h3 => ?_) (fun h3 => ?_)
 replace H := Jt h3 H
 refine Qj (Qc ?_)
 refine Qa (Qu rfl rfl) ?_
 refine Qa (Jf rfl Js Js Qh rfl rfl) ?_
 refine Qa (Qu rfl rfl) ?_
 refine Qa (Jf rfl Js Js Qh rfl rfl) ?_
 refine Qa (Qu rfl rfl) ?_
 refine Qa (Jf rfl Js Js Qh rfl rfl) ?_
 refine Qa (ps_build (Jn _ _ _ _ _ _ _ _ FdP.of (Part.one _ rfl rfl) rfl rfl (Jn _ _ _ _ _ _ _ _ FdP.of (Part.one _ rfl rfl) rfl rfl (Jn _ _ _ _ _ _ _ _ FdP.of (Part.one _ rfl rfl) rfl rfl (Parts.nil _)))) rfl) ?_
 refine Jq (ef_alloc rfl) (fun β4 => ?_)
 refine GoO.eff1 (ef_storeAg rfl rfl Qw upd_whole Qh rfl) ?_
 refine Qo (Qe (Qj ?_))
 refine GoC.drawP (.q 0 (.q 1 (.q 2 (.one 3 (.one 4 (.q 5 (.q 6 (.q 7 (.q 8 (.done)))))))))) [(8, _, _, _)] follows (by kernel_rfl) (Qd _ _ _ _ _ Qk (Qm _)) ?_
 refine Qx rfl (Ql rfl rfl) ?_
 refine Qx rfl (ps_loadAg rfl Qw Qw Qh rfl rfl) ?_
 refine Qx rfl (ps_loadAg rfl Qw Qw Qh rfl rfl) ?_
 have hb := Jd H; clear H
 obtain ⟨r5, e6, H⟩ := hb
 refine GoP.oneC rfl Qs (ef_call rfl (Qm _) (Qm _) (graph_CheckNet_spec (⟨d_.n, d_.a, d_.b, []⟩ : Net) e6) (Qq (Lend.agA ⟨⟨⟨⟨Qs, Qp _ _⟩, Qp _ _⟩, Qp _ _⟩, Lend.nil⟩) (Qz)) rfl (graph_CheckNet_I (r5))) (Qd _ _ _ _ _ Qk (Qm _)) (fun rr HH hp => ?_)
 obtain ⟨rfl, rfl⟩ := hp
 have hb := Jd H; clear H
 obtain ⟨⟨r7, r8, x9⟩, e10, H⟩ := hb
 refine GoP.oneCF rfl rfl (Qd _ _ _ _ _ Rem.p3 (Qd _ _ _ _ _ Rem.p3 (Qd _ _ _ _ _ Rem.p3 (Qd _ _ _ _ _ Rem.p3 (Qm _))))) (Qm _) (store_set_spec s (⟨d_.n, d_.a, d_.b, []⟩ : Net) [] r5 βs βs_1 βs_2 βs_3 e10) (Qq (Qp _ _) (Qq (Lend.agA ⟨⟨⟨⟨Qs, Qp _ _⟩, Qp _ _⟩, Qp _ _⟩, Lend.nil⟩) (Qq (Lend.nil) (Qq (Qp _ _) (Qz))))) rfl nil_fps (Qd _ _ _ _ _ Rem.p3 (Qd _ _ _ _ _ Rem.p3 (Qd _ _ _ _ _ Rem.p3 (Qd _ _ _ _ _ Rem.p3 (Qd _ _ _ _ _ Qk (Qm _)))))) (fun rr HH hp => ?_)
 obtain ⟨β11, β12, β13, rfl, rfl⟩ := hp
 refine GoV.qN rfl (pv_extract rfl rfl rfl) ?_
 refine GoV.qN rfl (pv_extract rfl rfl rfl) ?_
 refine GoV.qN rfl (pv_assign rfl rfl) ?_
 refine GoV.qN rfl (pv_assign rfl rfl) ?_
 refine GoV.done ?_
 refine Qe ?_
 obtain rfl := Qf H
 exact Jh (ds := [.v (.int .i64 r7), .v (.int .i64 r8)]) Tryd.results41 (Qt (Qv rfl) (Qt (Qv rfl) (Je))) (Qd _ _ _ _ _ Qk (Qd _ _ _ _ _ Qk (Qd _ _ _ _ _ Qk (Qd _ _ _ _ _ Qk (Qm _))))) ⟨β11, β12, β13, rfl, rfl⟩
 replace H := Ju h3 H
 refine Qj (Qc ?_)
 refine Qa (ps_eql rfl rfl rfl) ?_
 refine Qa (Qi rfl rfl) ?_
 refine Qo (Qe ?_)
 refine Jc rfl (fun h14 => ?_) (fun h14 => ?_)
 replace H := Jt h14 H
 refine Qj (Qc ?_)
 refine Qa (ps_loadAg rfl Qw Qw Qh rfl rfl) ?_
 refine Qa (Ql rfl rfl) ?_
 refine Qa (Qu rfl rfl) ?_
 refine Qa (Jf rfl Js Js Qh rfl rfl) ?_
 refine Qa (Qu rfl rfl) ?_
 refine Qa (Jf rfl Js Js Qh rfl rfl) ?_
 refine Qa (Qu rfl rfl) ?_
 refine Qa (Jf rfl Js Js Qh rfl rfl) ?_
 refine Qa (ps_build (Jn _ _ _ _ _ _ _ _ FdP.of (Part.one _ rfl rfl) rfl rfl (Jn _ _ _ _ _ _ _ _ FdP.of (Part.one _ rfl rfl) rfl rfl (Jn _ _ _ _ _ _ _ _ FdP.of (Part.one _ rfl rfl) rfl rfl (Parts.nil _)))) rfl) ?_
 have hb := Jd H; clear H
 obtain ⟨⟨r15, r16, r17, r18⟩, e19, H⟩ := hb
 refine GoO.callF rfl (Qm _) (Qm _) (repair_Add_specF s.now.net s.now.flow (⟨d_.a, d_.b, d_.n⟩ : Arc) e19) (Qq (Lend.agA ⟨⟨⟨⟨Qs, Qp _ _⟩, Qp _ _⟩, Qp _ _⟩, Qp _ _⟩) (Qq (Qp _ _) (Qq (Lend.agA ⟨⟨⟨Qs, Qp _ _⟩, Qp _ _⟩, Qp _ _⟩) (Qz)))) rfl nil_fps (fun rr HH hp => ?_)
 obtain ⟨rfl, rfl⟩ := hp
 refine Qa (Ql rfl rfl) ?_
 refine Qa (Ji rfl rfl rfl) ?_
 refine Qa (Ji rfl rfl rfl) ?_
 refine Qa (Ji rfl rfl rfl) ?_
 refine Qa (Ji rfl rfl rfl) ?_
 refine Jq (ef_alloc rfl) (fun β20 => ?_)
 refine GoO.eff1 (ef_storeAg rfl rfl Qw upd_whole Qh rfl) ?_
 refine Qa (Qi rfl rfl) ?_
 refine Qa (Qi rfl rfl) ?_
 refine Qa (Qi rfl rfl) ?_
 refine Qo (Qe (Qj (Qc ?_)))
 refine Qa (Ql rfl rfl) ?_
 refine Qa (ps_loadAg rfl Qw Qw Qh rfl rfl) ?_
 refine Qa (Ql rfl rfl) ?_
 refine Qa (Ql rfl rfl) ?_
 have hb := Jd H; clear H
 obtain ⟨⟨r21, r22, x23⟩, e24, H⟩ := hb
 refine GoO.callF rfl (Qd _ _ _ _ _ Rem.p3 (Qd _ _ _ _ _ Rem.p3 (Qd _ _ _ _ _ Rem.p3 (Qd _ _ _ _ _ Rem.p3 (Qm _))))) (Qm _) (store_set_spec s r15 r16 r18 βs βs_1 βs_2 βs_3 e24) (Qq (Qp _ _) (Qq (Lend.agA ⟨⟨⟨⟨Qs, Qp _ _⟩, Qp _ _⟩, Qp _ _⟩, Qp _ _⟩) (Qq (Qp _ _) (Qq (Qp _ _) (Qz))))) rfl nil_fps (fun rr HH hp => ?_)
 obtain ⟨β25, β26, β27, rfl, rfl⟩ := hp
 refine Qa (Ji rfl rfl rfl) ?_
 refine Qa (Ji rfl rfl rfl) ?_
 refine Qa (Qi rfl rfl) ?_
 refine Qa (Qi rfl rfl) ?_
 refine Qo (Qe ?_)
 obtain rfl := Qf H
 exact Jh (ds := [.v (.int .i64 r21), .v (.int .i64 r22)]) Tryd.results41 (Qt (Qv rfl) (Qt (Qv rfl) (Je))) (Qd _ _ _ _ _ Qk (Qd _ _ _ _ _ Qk (Qd _ _ _ _ _ Qk (Qd _ _ _ _ _ Qk (Qm _))))) ⟨β25, β26, β27, rfl, rfl⟩
 replace H := Ju h14 H
 refine Qj (Qc ?_)
 refine Qa (ps_eql rfl rfl rfl) ?_
 refine Qa (Qi rfl rfl) ?_
 refine Qo (Qe ?_)
 refine Jc rfl (fun h28 => ?_) (fun h28 => ?_)
 replace H := Jt h28 H
 refine Qj (Qc ?_)
 refine Qa (ps_loadAg rfl Qw Qw Qh rfl rfl) ?_
 refine Qa (Ql rfl rfl) ?_
 refine Qa (Qu rfl rfl) ?_
 refine Qa (Jf rfl Js Js Qh rfl rfl) ?_
 refine Qa (Qu rfl rfl) ?_
 refine Qa (Jf rfl Js Js Qh rfl rfl) ?_
 have hb := Jd H; clear H
 obtain ⟨⟨r29, r30, r31, r32⟩, e33, H⟩ := hb
 refine GoO.callF rfl (Qm _) (Qm _) (repair_Cap_specF s.now.net s.now.flow d_.a d_.n e33) (Qq (Lend.agA ⟨⟨⟨⟨Qs, Qp _ _⟩, Qp _ _⟩, Qp _ _⟩, Qp _ _⟩) (Qq (Qp _ _) (Qq (Qp _ _) (Qq (Qp _ _) (Qz))))) rfl nil_fps (fun rr HH hp => ?_)
 obtain ⟨rfl, rfl⟩ := hp
 refine Qa (Ql rfl rfl) ?_
 refine Qa (Ji rfl rfl rfl) ?_
 refine Qa (Ji rfl rfl rfl) ?_
 refine Qa (Ji rfl rfl rfl) ?_
 refine Qa (Ji rfl rfl rfl) ?_
 refine Jq (ef_alloc rfl) (fun β34 => ?_)
 refine GoO.eff1 (ef_storeAg rfl rfl Qw upd_whole Qh rfl) ?_
 refine Qa (Qi rfl rfl) ?_
 refine Qa (Qi rfl rfl) ?_
 refine Qa (Qi rfl rfl) ?_
 refine Qo (Qe (Qj (Qc ?_)))
 refine Qa (Ql rfl rfl) ?_
 refine Qa (ps_loadAg rfl Qw Qw Qh rfl rfl) ?_
 refine Qa (Ql rfl rfl) ?_
 refine Qa (Ql rfl rfl) ?_
 have hb := Jd H; clear H
 obtain ⟨⟨r35, r36, x37⟩, e38, H⟩ := hb
 refine GoO.callF rfl (Qd _ _ _ _ _ Rem.p3 (Qd _ _ _ _ _ Rem.p3 (Qd _ _ _ _ _ Rem.p3 (Qd _ _ _ _ _ Rem.p3 (Qm _))))) (Qm _) (store_set_spec s r29 r30 r32 βs βs_1 βs_2 βs_3 e38) (Qq (Qp _ _) (Qq (Lend.agA ⟨⟨⟨⟨Qs, Qp _ _⟩, Qp _ _⟩, Qp _ _⟩, Qp _ _⟩) (Qq (Qp _ _) (Qq (Qp _ _) (Qz))))) rfl nil_fps (fun rr HH hp => ?_)
 obtain ⟨β39, β40, β41, rfl, rfl⟩ := hp
 refine Qa (Ji rfl rfl rfl) ?_
 refine Qa (Ji rfl rfl rfl) ?_
 refine Qa (Qi rfl rfl) ?_
 refine Qa (Qi rfl rfl) ?_
 refine Qo (Qe ?_)
 obtain rfl := Qf H
 exact Jh (ds := [.v (.int .i64 r35), .v (.int .i64 r36)]) Tryd.results41 (Qt (Qv rfl) (Qt (Qv rfl) (Je))) (Qd _ _ _ _ _ Qk (Qd _ _ _ _ _ Qk (Qd _ _ _ _ _ Qk (Qd _ _ _ _ _ Qk (Qm _))))) ⟨β39, β40, β41, rfl, rfl⟩
 replace H := Ju h28 H
 refine Qj (Qc ?_)
 refine Qa (ps_eql rfl rfl rfl) ?_
 refine Qa (Qi rfl rfl) ?_
 refine Qo (Qe ?_)
 refine Jc rfl (fun h42 => ?_) (fun h42 => ?_)
 replace H := Jt h42 H
 refine Qj (Qc ?_)
 refine Qa (ps_loadAg rfl Qw Qw Qh rfl rfl) ?_
 refine Qa (Ql rfl rfl) ?_
 refine Qa (Qu rfl rfl) ?_
 refine Qa (Jf rfl Js Js Qh rfl rfl) ?_
 have hb := Jd H; clear H
 obtain ⟨⟨r43, r44, r45, r46⟩, e47, H⟩ := hb
 refine GoO.callF rfl (Qm _) (Qm _) (repair_Drop_specF s.now.net s.now.flow d_.a e47) (Qq (Lend.agA ⟨⟨⟨⟨Qs, Qp _ _⟩, Qp _ _⟩, Qp _ _⟩, Qp _ _⟩) (Qq (Qp _ _) (Qq (Qp _ _) (Qz)))) rfl nil_fps (fun rr HH hp => ?_)
 obtain ⟨rfl, rfl⟩ := hp
 refine Qa (Ql rfl rfl) ?_
 refine Qa (Ji rfl rfl rfl) ?_
 refine Qa (Ji rfl rfl rfl) ?_
 refine Qa (Ji rfl rfl rfl) ?_
 refine Qa (Ji rfl rfl rfl) ?_
 refine Jq (ef_alloc rfl) (fun β48 => ?_)
 refine GoO.eff1 (ef_storeAg rfl rfl Qw upd_whole Qh rfl) ?_
 refine Qa (Qi rfl rfl) ?_
 refine Qa (Qi rfl rfl) ?_
 refine Qa (Qi rfl rfl) ?_
 refine Qo (Qe (Qj (Qc ?_)))
 refine Qa (Ql rfl rfl) ?_
 refine Qa (ps_loadAg rfl Qw Qw Qh rfl rfl) ?_
 refine Qa (Ql rfl rfl) ?_
 refine Qa (Ql rfl rfl) ?_
 have hb := Jd H; clear H
 obtain ⟨⟨r49, r50, x51⟩, e52, H⟩ := hb
 refine GoO.callF rfl (Qd _ _ _ _ _ Rem.p3 (Qd _ _ _ _ _ Rem.p3 (Qd _ _ _ _ _ Rem.p3 (Qd _ _ _ _ _ Rem.p3 (Qm _))))) (Qm _) (store_set_spec s r43 r44 r46 βs βs_1 βs_2 βs_3 e52) (Qq (Qp _ _) (Qq (Lend.agA ⟨⟨⟨⟨Qs, Qp _ _⟩, Qp _ _⟩, Qp _ _⟩, Qp _ _⟩) (Qq (Qp _ _) (Qq (Qp _ _) (Qz))))) rfl nil_fps (fun rr HH hp => ?_)
 obtain ⟨β53, β54, β55, rfl, rfl⟩ := hp
 refine Qa (Ji rfl rfl rfl) ?_
 refine Qa (Ji rfl rfl rfl) ?_
 refine Qa (Qi rfl rfl) ?_
 refine Qa (Qi rfl rfl) ?_
 refine Qo (Qe ?_)
 obtain rfl := Qf H
 exact Jh (ds := [.v (.int .i64 r49), .v (.int .i64 r50)]) Tryd.results41 (Qt (Qv rfl) (Qt (Qv rfl) (Je))) (Qd _ _ _ _ _ Qk (Qd _ _ _ _ _ Qk (Qd _ _ _ _ _ Qk (Qd _ _ _ _ _ Qk (Qm _))))) ⟨β53, β54, β55, rfl, rfl⟩
 replace H := Ju h42 H
 refine Qj (Qc ?_)
 refine Qa (ps_eql rfl rfl rfl) ?_
 refine Qa (Qi rfl rfl) ?_
 refine Qo (Qe ?_)
 refine Jc rfl (fun h56 => ?_) (fun h56 => ?_)
 replace H := Jt h56 H
 refine Qj (Qc ?_)
 refine Qa (ps_loadAg rfl Qw Qw Qh rfl rfl) ?_
 refine Qa (Ql rfl rfl) ?_
 refine Qa (Qu rfl rfl) ?_
 refine Qa (Jf rfl Js Js Qh rfl rfl) ?_
 refine Qa (Qu rfl rfl) ?_
 refine Qa (Jf rfl Js Js Qh rfl rfl) ?_
 have hb := Jd H; clear H
 obtain ⟨⟨r57, r58, r59, r60⟩, e61, H⟩ := hb
 refine GoO.callF rfl (Qm _) (Qm _) (repair_Ends_specF s.now.net s.now.flow d_.a d_.b e61) (Qq (Lend.agA ⟨⟨⟨⟨Qs, Qp _ _⟩, Qp _ _⟩, Qp _ _⟩, Qp _ _⟩) (Qq (Qp _ _) (Qq (Qp _ _) (Qq (Qp _ _) (Qz))))) rfl nil_fps (fun rr HH hp => ?_)
 obtain ⟨rfl, rfl⟩ := hp
 refine Qa (Ql rfl rfl) ?_
 refine Qa (Ji rfl rfl rfl) ?_
 refine Qa (Ji rfl rfl rfl) ?_
 refine Qa (Ji rfl rfl rfl) ?_
 refine Qa (Ji rfl rfl rfl) ?_
 refine Jq (ef_alloc rfl) (fun β62 => ?_)
 refine GoO.eff1 (ef_storeAg rfl rfl Qw upd_whole Qh rfl) ?_
 refine Qa (Qi rfl rfl) ?_
 refine Qa (Qi rfl rfl) ?_
 refine Qa (Qi rfl rfl) ?_
 refine Qo (Qe (Qj (Qc ?_)))
 refine Qa (Ql rfl rfl) ?_
 refine Qa (ps_loadAg rfl Qw Qw Qh rfl rfl) ?_
 refine Qa (Ql rfl rfl) ?_
 refine Qa (Ql rfl rfl) ?_
 have hb := Jd H; clear H
 obtain ⟨⟨r63, r64, x65⟩, e66, H⟩ := hb
 refine GoO.callF rfl (Qd _ _ _ _ _ Rem.p3 (Qd _ _ _ _ _ Rem.p3 (Qd _ _ _ _ _ Rem.p3 (Qd _ _ _ _ _ Rem.p3 (Qm _))))) (Qm _) (store_set_spec s r57 r58 r60 βs βs_1 βs_2 βs_3 e66) (Qq (Qp _ _) (Qq (Lend.agA ⟨⟨⟨⟨Qs, Qp _ _⟩, Qp _ _⟩, Qp _ _⟩, Qp _ _⟩) (Qq (Qp _ _) (Qq (Qp _ _) (Qz))))) rfl nil_fps (fun rr HH hp => ?_)
 obtain ⟨β67, β68, β69, rfl, rfl⟩ := hp
 refine Qa (Ji rfl rfl rfl) ?_
 refine Qa (Ji rfl rfl rfl) ?_
 refine Qa (Qi rfl rfl) ?_
 refine Qa (Qi rfl rfl) ?_
 refine Qo (Qe ?_)
 obtain rfl := Qf H
 exact Jh (ds := [.v (.int .i64 r63), .v (.int .i64 r64)]) Tryd.results41 (Qt (Qv rfl) (Qt (Qv rfl) (Je))) (Qd _ _ _ _ _ Qk (Qd _ _ _ _ _ Qk (Qd _ _ _ _ _ Qk (Qd _ _ _ _ _ Qk (Qm _))))) ⟨β67, β68, β69, rfl, rfl⟩
 replace H := Ju h56 H
 refine Qj (Qc ?_)
 refine Qa (ps_eql rfl rfl rfl) ?_
 refine Qa (Qi rfl rfl) ?_
 refine Qo (Qe ?_)
 refine Jc rfl (fun h70 => ?_) (fun h70 => ?_)
 replace H := Jt h70 H
 refine Qj (Qc ?_)
 refine Qa (Ql rfl rfl) ?_
 have hb := Jd H; clear H
 obtain ⟨⟨r71, r72, x73⟩, e74, H⟩ := hb
 refine GoO.callF rfl (Qd _ _ _ _ _ Rem.p2 (Qd _ _ _ _ _ Rem.p2 (Qd _ _ _ _ _ Rem.p2 (Qd _ _ _ _ _ Rem.p2 (Qm _))))) (Qm _) (store_undo_spec s βs βs_1 βs_2 βs_3 e74) (Qq (Qp _ _) (Qz)) rfl nil_fps (fun rr HH hp => ?_)
 obtain ⟨β75, β76, β77, rfl, rfl⟩ := hp
 refine Qa (Ji rfl rfl rfl) ?_
 refine Qa (Ji rfl rfl rfl) ?_
 refine Qa (Qi rfl rfl) ?_
 refine Qa (Qi rfl rfl) ?_
 refine Qo (Qe ?_)
 obtain rfl := Qf H
 exact Jh (ds := [.v (.int .i64 r71), .v (.int .i64 r72)]) Tryd.results41 (Qt (Qv rfl) (Qt (Qv rfl) (Je))) (Qd _ _ _ _ _ Qk (Qd _ _ _ _ _ Qk (Qd _ _ _ _ _ Qk (Qd _ _ _ _ _ Qk (Qm _))))) ⟨β75, β76, β77, rfl, rfl⟩
 replace H := Ju h70 H
 refine Qj (Qc ?_)
 refine Qa (ps_eql rfl rfl rfl) ?_
 refine Qa (Qi rfl rfl) ?_
 refine Qo (Qe ?_)
 refine Jc rfl (fun h78 => ?_) (fun h78 => ?_)
 replace H := Jt h78 H
 refine Qj (Qc ?_)
 refine Qa (Ql rfl rfl) ?_
 refine Qa (Qu rfl rfl) ?_
 refine Qa (Jf rfl Js Js Qh rfl rfl) ?_
 have hb := Jd H; clear H
 obtain ⟨⟨r79, r80, x81⟩, e82, H⟩ := hb
 refine GoO.callF rfl (Qd _ _ _ _ _ Rem.p2 (Qd _ _ _ _ _ Rem.p2 (Qd _ _ _ _ _ Rem.p2 (Qd _ _ _ _ _ Rem.p2 (Qm _))))) (Qm _) (store_save_spec s d_.name βs βs_1 βs_2 βs_3 e82) (Qq (Qp _ _) (Qq (Qp _ _) (Qz))) rfl nil_fps (fun rr HH hp => ?_)
 obtain ⟨β83, β84, β85, rfl, rfl⟩ := hp
 refine Qa (Ji rfl rfl rfl) ?_
 refine Qa (Ji rfl rfl rfl) ?_
 refine Qa (Qi rfl rfl) ?_
 refine Qa (Qi rfl rfl) ?_
 refine Qo (Qe ?_)
 obtain rfl := Qf H
 exact Jh (ds := [.v (.int .i64 r79), .v (.int .i64 r80)]) Tryd.results41 (Qt (Qv rfl) (Qt (Qv rfl) (Je))) (Qd _ _ _ _ _ Qk (Qd _ _ _ _ _ Qk (Qd _ _ _ _ _ Qk (Qd _ _ _ _ _ Qk (Qm _))))) ⟨β83, β84, β85, rfl, rfl⟩
 replace H := Ju h78 H
 refine Qj (Qc ?_)
 refine Qa (ps_eql rfl rfl rfl) ?_
 refine Qa (Qi rfl rfl) ?_
 refine Qo (Qe ?_)
 refine Jc rfl (fun h86 => ?_) (fun h86 => ?_)
 replace H := Jt h86 H
 refine Qj (Qc ?_)
 refine Qa (Ql rfl rfl) ?_
 refine Qa (Qu rfl rfl) ?_
 refine Qa (Jf rfl Js Js Qh rfl rfl) ?_
 have hb := Jd H; clear H
 obtain ⟨⟨r87, r88, x89⟩, e90, H⟩ := hb
 refine GoO.callF rfl (Qd _ _ _ _ _ Rem.p2 (Qd _ _ _ _ _ Rem.p2 (Qd _ _ _ _ _ Rem.p2 (Qd _ _ _ _ _ Rem.p2 (Qm _))))) (Qm _) (store_load_spec s d_.name βs βs_1 βs_2 βs_3 e90) (Qq (Qp _ _) (Qq (Qp _ _) (Qz))) rfl nil_fps (fun rr HH hp => ?_)
 obtain ⟨β91, β92, β93, rfl, rfl⟩ := hp
 refine Qa (Ji rfl rfl rfl) ?_
 refine Qa (Ji rfl rfl rfl) ?_
 refine Qa (Qi rfl rfl) ?_
 refine Qa (Qi rfl rfl) ?_
 refine Qo (Qe ?_)
 obtain rfl := Qf H
 exact Jh (ds := [.v (.int .i64 r87), .v (.int .i64 r88)]) Tryd.results41 (Qt (Qv rfl) (Qt (Qv rfl) (Je))) (Qd _ _ _ _ _ Qk (Qd _ _ _ _ _ Qk (Qd _ _ _ _ _ Qk (Qd _ _ _ _ _ Qk (Qm _))))) ⟨β91, β92, β93, rfl, rfl⟩
 replace H := Ju h86 H
 refine Qj (Qc ?_)
 refine Qa (ps_eql rfl rfl rfl) ?_
 refine Qa (Qi rfl rfl) ?_
 refine Qo (Qe ?_)
 refine Jc rfl (fun h94 => ?_) (fun h94 => ?_)
 replace H := Jt h94 H
 refine Qj (Qc ?_)
 refine Qa (ps_loadAg rfl Qw Qw Qh rfl rfl) ?_
 have hb := Jd H; clear H
 obtain ⟨⟨r95, r96, r97⟩, e98, H⟩ := hb
 refine GoO.effC (ef_call rfl (Qm _) (Qm _) (cut_Least_spec s.now.net e98) (Qq (Lend.agA ⟨⟨⟨⟨Qs, Qp _ _⟩, Qp _ _⟩, Qp _ _⟩, Qp _ _⟩) (Qz)) rfl (cut_Least_I (r95, r96, r97))) (fun rr HH hp => ?_)
 obtain ⟨rfl, rfl⟩ := hp
 refine Qa (Ql rfl rfl) ?_
 refine Qa (Ji rfl rfl rfl) ?_
 refine Qa (Ji rfl rfl rfl) ?_
 refine Qa (Ji rfl rfl rfl) ?_
 refine Qa (Qi rfl rfl) ?_
 refine Qa (Qi rfl rfl) ?_
 refine Qa (Qi rfl rfl) ?_
 refine Qo (Qe (Qj (Qc ?_)))
 refine Qa (Ql rfl rfl) ?_
 refine Qa (Qi rfl rfl) ?_
 refine Qa (Qi rfl rfl) ?_
 refine Qo (Qe ?_)
 obtain rfl := Qf H
 exact Jh (ds := [.v (.int .i64 r96), .v (.int .i64 0)]) Tryd.results41 (Qt (Qv rfl) (Qt (Qv rfl) (Je))) (Qd _ _ _ _ _ Rem.p2 (Qd _ _ _ _ _ Rem.p2 (Qd _ _ _ _ _ Rem.p2 (Qd _ _ _ _ _ Rem.p2 (Qm _))))) ⟨βs_1, βs_2, βs_3, rfl, rfl⟩
 replace H := Ju h94 H
 refine Qj (Qc ?_)
 refine Qa (ps_eql rfl rfl rfl) ?_
 refine Qa (Qi rfl rfl) ?_
 refine Qo (Qe ?_)
 refine Jc rfl (fun h99 => ?_) (fun h99 => ?_)
 replace H := Jt h99 H
 refine Qj (Qc ?_)
 refine Qa (ps_loadAg rfl Qw Qw Qh rfl rfl) ?_
 have hb := Jd H; clear H
 obtain ⟨⟨r100, r101, r102⟩, e103, H⟩ := hb
 refine GoO.effC (ef_call rfl (Qm _) (Qm _) (cut_Least_spec s.now.net e103) (Qq (Lend.agA ⟨⟨⟨⟨Qs, Qp _ _⟩, Qp _ _⟩, Qp _ _⟩, Qp _ _⟩) (Qz)) rfl (cut_Least_I (r100, r101, r102))) (fun rr HH hp => ?_)
 obtain ⟨rfl, rfl⟩ := hp
 refine Qa (Ql rfl rfl) ?_
 refine Qa (Ji rfl rfl rfl) ?_
 refine Qa (Ji rfl rfl rfl) ?_
 refine Qa (Ji rfl rfl rfl) ?_
 refine Qa (Qi rfl rfl) ?_
 refine Qa (Qi rfl rfl) ?_
 refine Qa (Qi rfl rfl) ?_
 refine Qo (Qe (Qj (Qc ?_)))
 refine Qa (Ql rfl rfl) ?_
 refine Qa (ps_convK rfl rfl) ?_
 refine Qa (Qi rfl rfl) ?_
 refine Qa (Qi rfl rfl) ?_
 refine Qo (Qe ?_)
 obtain rfl := Qf H
 exact Jh (ds := [.v (.int .i64 (IntKind.i64.wrap r100)), .v (.int .i64 0)]) Tryd.results41 (Qt (Qv rfl) (Qt (Qv rfl) (Je))) (Qd _ _ _ _ _ Rem.p2 (Qd _ _ _ _ _ Rem.p2 (Qd _ _ _ _ _ Rem.p2 (Qd _ _ _ _ _ Rem.p2 (Qm _))))) ⟨βs_1, βs_2, βs_3, rfl, rfl⟩
 replace H := Ju h99 H
 refine Qj (Qc ?_)
 refine Qa (ps_eql rfl rfl rfl) ?_
 refine Qa (Qi rfl rfl) ?_
 refine Qo (Qe ?_)
 refine Jc rfl (fun h104 => ?_) (fun h104 => ?_)
 replace H := Jt h104 H
 refine Qj (Qc ?_)
 refine Qa (Qu rfl rfl) ?_
 refine Qa (Jf rfl Qw Qw Qh rfl rfl) ?_
 refine Qa (ps_len rfl (by constructor) rfl) ?_
 refine GoO.lenLe (n := s.now.net.as.length) (x := .tmp 188) rfl (by constructor) sl_lenLe (fun ml105 => ?_)
 refine Qa (Qi rfl rfl) ?_
 refine Qa (Qi rfl rfl) ?_
 refine Qo (Qe ?_)
 obtain rfl := Qf H
 exact Jh (ds := [.v (.int .i64 ((s.now.net.as.length : Nat) : Int)), .v (.int .i64 0)]) Tryd.results41 (Qt (Qv rfl) (Qt (Qv rfl) (Je))) (Qd _ _ _ _ _ Rem.p2 (Qd _ _ _ _ _ Rem.p2 (Qd _ _ _ _ _ Rem.p2 (Qd _ _ _ _ _ Rem.p2 (Qm _))))) ⟨βs_1, βs_2, βs_3, rfl, rfl⟩
 replace H := Ju h104 H
 refine Jg (GoK.blk (Qe (Qj (Qc ?_))))
 refine Qa (Qi rfl rfl) ?_
 refine Qa (Qi rfl rfl) ?_
 refine Qo (Qe ?_)
 obtain rfl := Qf H
 exact Jh (ds := [.v (.int .i64 0), .v (.int .i64 1)]) Tryd.results41 (Qt (Qv rfl) (Qt (Qv rfl) (Je))) (Qd _ _ _ _ _ Rem.p2 (Qd _ _ _ _ _ Rem.p2 (Qd _ _ _ _ _ Rem.p2 (Qd _ _ _ _ _ Rem.p2 (Qm _))))) ⟨βs_1, βs_2, βs_3, rfl, rfl⟩
def store_Net_F (s : Store) : Option (Net × Store) :=
 (slices_Clone_Arc_F s.now.net.as).bind fun r3 =>
 some ((⟨s.now.net.n, s.now.net.s, s.now.net.t, r3⟩ : Net), s)
def store_Net_P (out : Net × Store) (βs : BK) (βs_1 : BK) (βs_2 : BK) (βs_3 : BK) (d : D) (H : List HL) : Prop := ∃ β1 βx1 βx2 βx3 : BK, d = .ag 4 (nth [.v (.int .i64 out.1.n), .v (.int .i64 out.1.s), .v (.int .i64 out.1.t), .own β1 3 0 out.1.as.length]) ∧ H = [.one β1 83 3 (row out.1.as), .one βs 48 8 (st1 (nth [.v (.int .i64 out.2.now.net.n), .v (.int .i64 out.2.now.net.s), .v (.int .i64 out.2.now.net.t), slD out.2.now.net.as, slD out.2.now.flow, .own βx1 5 0 out.2.old.length, .own βx2 1 0 out.2.names.length, .own βx3 5 0 out.2.saved.length])), .one βx1 45 5 (row out.2.old), .one βx2 9 1 (row out.2.names), .one βx3 45 5 (row out.2.saved)]
set_option maxRecDepth 100000 in
set_option maxHeartbeats 4000000 in
theorem store_Net_spec (s : Store) (βs : BK) (βs_1 : BK) (βs_2 : BK) (βs_3 : BK) {out : Net × Store} (H : store_Net_F s = some out) : Does Tryd.prog 44 [.ptr βs 8 0 0] [.one βs 48 8 (st1 (nth [.v (.int .i64 s.now.net.n), .v (.int .i64 s.now.net.s), .v (.int .i64 s.now.net.t), slD s.now.net.as, slD s.now.flow, .own βs_1 5 0 s.old.length, .own βs_2 1 0 s.names.length, .own βs_3 5 0 s.saved.length])), .one βs_1 45 5 (row s.old), .one βs_2 9 1 (row s.names), .one βs_3 45 5 (row s.saved)] (store_Net_P out βs βs_1 βs_2 βs_3) := by
 unfold store_Net_F at H
 refine Does.intro Tryd.func44 rfl Tryd.ntmps44 rfl fun w0 I0 tb0 => ?_
 refine Qj (Qc ?_)
 refine Jq (ef_alloc rfl) (fun β1 => ?_)
 refine Qo (Qe (Qj (Qc ?_)))
 refine Qa (Ql rfl rfl) ?_
 refine Qa (ps_nilCheck rfl rfl) ?_
 refine Qa (Qu rfl rfl) ?_
 refine Qa (Qu rfl rfl) ?_
 refine Qa (ps_loadAg rfl Js Js Qh rfl rfl) ?_
 refine Jq (ef_alloc rfl) (fun β2 => ?_)
 refine GoO.eff1 (ef_storeAg rfl rfl Qw upd_whole Qh rfl) ?_
 refine Qo (Qe (Qj (Qc ?_)))
 refine Qa (Qu rfl rfl) ?_
 refine Qa (Jf rfl Qw Qw Qh rfl rfl) ?_
 have hb := Jd H; clear H
 obtain ⟨r3, e5, H⟩ := hb
 refine GoO.effC (ef_call rfl (Qm _) (Qm _) (slices_Clone_Arc_spec s.now.net.as e5) (Qq (Qp _ _) (Qz)) rfl (slices_Clone_Arc_I (r3))) (fun rr HH hp => ?_)
 obtain ⟨β4, rfl, rfl⟩ := hp
 refine Qa (Qu rfl rfl) ?_
 refine GoO.eff1 (ef_store rfl rfl rfl Js upd_st1 Qh rfl) ?_
 refine Qo (Qe (Qj (Qc ?_)))
 refine Qa (ps_loadAg rfl Js Js Qh rfl rfl) ?_
 refine GoO.eff1 (ef_storeAg rfl rfl At.p2 upd_whole Qh rfl) ?_
 refine Qo (Qe ?_)
 obtain rfl := Qf H
 exact Jh (ds := [.ag 4 (nth [.v (.int .i64 s.now.net.n), .v (.int .i64 s.now.net.s), .v (.int .i64 s.now.net.t), .own β4 3 0 r3.length])]) Tryd.results44 (Qt (ResD.le (ResD.cellAg rfl At.p2 Qh rfl) (by exact DLe.ag ⟨⟨⟨⟨Qs, Qb _⟩, Qb _⟩, Qb _⟩, Qb _⟩)) (Je)) (Qd _ _ _ _ _ Qk (Qd _ _ _ _ _ Rem.p2 (Qd _ _ _ _ _ Rem.p2 (Qd _ _ _ _ _ Rem.p2 (Qd _ _ _ _ _ Rem.p2 (Qm _)))))) ⟨β4, βs_1, βs_2, βs_3, rfl, rfl⟩
end Go.Proofs.YthchdnemndolbaaDoor
