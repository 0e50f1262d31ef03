import Derived.Test.YthchdnemndolbaaDoorQTys
import Derived.Test.YthchdnemndolbaaDoorQDat
import Derived.Test.YthchdnemndolbaaDoorQGdesk
import Derived.Test.YthchdnemndolbaaDoorQGslices
import Derived.Test.YthchdnemndolbaaDoorQPE
namespace Go.Proofs.YthchdnemndolbaaDoor
open Go Go.Proofs.YthchdnemndolbaaDoor.Sx
set_option linter.unusedVariables false
set_option linter.unusedSimpArgs false
def weirkeep_DeskFront_F (a : ByteArray) (b : ByteArray) : Option (Bool) :=
 (desk_Run_F (⟨#[97, 114, 99, 32, 48, 32, 49, 32, 55, 10, 118, 97, 108, 117, 101, 10, 110, 111, 10, 117, 110, 100, 111, 10, 97, 114, 99, 115]⟩ : ByteArray)).bind fun (r1, r3) =>
 if r3 ≠ 0 then
  some false
 else
  (slices_Equal_string_F r1 ([(⟨#[111, 107]⟩ : ByteArray), (⟨#[55]⟩ : ByteArray), (⟨#[101, 114, 114, 111, 114, 32, 49, 50]⟩ : ByteArray), (⟨#[111, 107]⟩ : ByteArray), (⟨#[48]⟩ : ByteArray)] : List ByteArray)).bind fun r7 =>
  if (!r7) = true then
   some false
  else
   ck (a.size + (⟨#[10]⟩ : ByteArray).size ≤ 9223372036854775807) <|
   ck ((a ++ (⟨#[10]⟩ : ByteArray)).size + b.size ≤ 9223372036854775807) <|
   (desk_Run_F ((a ++ (⟨#[10]⟩ : ByteArray)) ++ b)).bind fun (r12, r14) =>
   (desk_Run_F a).bind fun (r16, r18) =>
   if r14 ≠ 0 then
    some (decide (((r12.length : Nat) : Int) = 0))
   else
    if r18 = 0 then
     if ((r16.length : Nat) : Int) ≤ ((r12.length : Nat) : Int) then
      ck (r16.length ≤ r12.length) <|
      (slices_Equal_string_F r16 (subl r12 0 r16.length)).bind fun r28 =>
      some r28
     else
      some false
    else
     some false
def weirkeep_DeskFront_P (out : Bool) (d : D) (H : List HL) : Prop := d = .v (.bool out) ∧ H = []
set_option maxRecDepth 100000 in
set_option maxHeartbeats 4000000 in
theorem weirkeep_DeskFront_spec (a : ByteArray) (b : ByteArray) {out : Bool} (H : weirkeep_DeskFront_F a b = some out) : Does Tryd.prog 3 [.v (.string a), .v (.string b)] [] (weirkeep_DeskFront_P out) := by
 unfold weirkeep_DeskFront_F at H
 refine Does.intro Tryd.func3 rfl Tryd.ntmps3 rfl fun w0 I0 tb0 => ?_
 refine Qj (Qc ?_)
 refine Qa (Qi rfl rfl) ?_
 refine Qo (Qe (Qj (Qj (Qc ?_))))
 have hb := Jd H; clear H
 obtain ⟨⟨r1, r3⟩, e4, H⟩ := hb
 refine GoO.effC (ef_call rfl (Qm _) (Qm _) (desk_Run_spec (⟨#[97, 114, 99, 32, 48, 32, 49, 32, 55, 10, 118, 97, 108, 117, 101, 10, 110, 111, 10, 117, 110, 100, 111, 10, 97, 114, 99, 115]⟩ : ByteArray) e4) (Qq (Qp _ _) (Qz)) rfl (desk_Run_I (r1, r3))) (fun rr HH hp => ?_)
 obtain ⟨β2, rfl, rfl⟩ := hp
 refine Qa (Ql rfl rfl) ?_
 refine Qa (Ji rfl rfl rfl) ?_
 refine Qa (Ji rfl rfl rfl) ?_
 refine Qa (Qi rfl rfl) ?_
 refine Qa (Qi rfl rfl) ?_
 refine Qo (Qe (Qj (Qc ?_)))
 refine Qa (Ql rfl rfl) ?_
 refine Qa (ps_neq rfl rfl rfl) ?_
 refine Qa (Ql rfl rfl) ?_
 refine GoO.guardE rfl rfl rfl rfl (fun h5 => ?_) (fun h5 => ?_)
 replace H := Ju h5 H
 refine Qa (Ql rfl rfl) ?_
 refine Jl rfl rfl rfl ?_
 refine Jq (ef_buildSlice (row ([(⟨#[111, 107]⟩ : ByteArray), (⟨#[55]⟩ : ByteArray), (⟨#[101, 114, 114, 111, 114, 32, 49, 50]⟩ : ByteArray), (⟨#[111, 107]⟩ : ByteArray), (⟨#[48]⟩ : ByteArray)] : List ByteArray)) rfl (Jn _ _ _ _ _ _ _ _ ⟨rfl, rfl⟩ (Part.one _ rfl rfl) rfl rfl (Jn _ _ _ _ _ _ _ _ ⟨rfl, rfl⟩ (Part.one _ rfl rfl) rfl rfl (Jn _ _ _ _ _ _ _ _ ⟨rfl, rfl⟩ (Part.one _ rfl rfl) rfl rfl (Jn _ _ _ _ _ _ _ _ ⟨rfl, rfl⟩ (Part.one _ rfl rfl) rfl rfl (Jn _ _ _ _ _ _ _ _ ⟨rfl, rfl⟩ (Part.one _ rfl rfl) rfl rfl (Parts.nil _)))))) rfl rfl rfl rfl) (fun β6 => ?_)
 refine Jl rfl rfl rfl ?_
 have hb := Jd H; clear H
 obtain ⟨r7, e8, H⟩ := hb
 refine GoO.effC (ef_call rfl (Qm _) (Qd _ _ _ _ _ Jk (Qd _ _ _ _ _ Qk (Qm _))) (slices_Equal_string_spec r1 ([(⟨#[111, 107]⟩ : ByteArray), (⟨#[55]⟩ : ByteArray), (⟨#[101, 114, 114, 111, 114, 32, 49, 50]⟩ : ByteArray), (⟨#[111, 107]⟩ : ByteArray), (⟨#[48]⟩ : ByteArray)] : List ByteArray) e8) (Qq (Lend.all' Qw (by first | rfl | omega | (simp only [szl] <;> first | rfl | omega)) rfl) (Qq (Lend.all' Js (by first | rfl | omega | (simp only [szl] <;> first | rfl | omega)) rfl) (Qz))) rfl (slices_Equal_string_I (r7))) (fun rr HH hp => ?_)
 obtain ⟨rfl, rfl⟩ := hp
 refine Jl rfl rfl rfl ?_
 refine Qa (ps_not rfl rfl) ?_
 refine Qa (ps_pickF rfl rfl rfl) ?_
 refine Qo (Qe ?_)
 refine GoC.cond rfl (fun h9 => ?_) (fun h9 => ?_)
 replace H := itb_t h9 H
 refine Qj (Qc ?_)
 refine Qa (Qi rfl rfl) ?_
 refine Qo (Qe ?_)
 obtain rfl := Qf H
 exact Jh (ds := [.v (.bool false)]) Tryd.results3 (Qt (Qv rfl) (Je)) (Qm _) ⟨rfl, rfl⟩
 replace H := itb_f h9 H
 refine Jg (Qe (Qj (Qc ?_)))
 refine Qa (Ql rfl rfl) ?_
 have c10 := ck_l H; replace H := ck_r H
 refine Qa (ps_addStr rfl rfl c10 rfl) ?_
 refine Qa (Ql rfl rfl) ?_
 have c11 := ck_l H; replace H := ck_r H
 refine Qa (ps_addStr rfl rfl c11 rfl) ?_
 have hb := Jd H; clear H
 obtain ⟨⟨r12, r14⟩, e15, H⟩ := hb
 refine GoO.effC (ef_call rfl (Qm _) (Qm _) (desk_Run_spec ((a ++ (⟨#[10]⟩ : ByteArray)) ++ b) e15) (Qq (Qp _ _) (Qz)) rfl (desk_Run_I (r12, r14))) (fun rr HH hp => ?_)
 obtain ⟨β13, rfl, rfl⟩ := hp
 refine Qa (Ql rfl rfl) ?_
 refine Qa (Ji rfl rfl rfl) ?_
 refine Qa (Ji rfl rfl rfl) ?_
 refine Qa (Qi rfl rfl) ?_
 refine Qa (Qi rfl rfl) ?_
 refine Qo (Qe (Qj (Qc ?_)))
 refine Qa (Ql rfl rfl) ?_
 have hb := Jd H; clear H
 obtain ⟨⟨r16, r18⟩, e19, H⟩ := hb
 refine GoO.effC (ef_call rfl (Qm _) (Qm _) (desk_Run_spec a e19) (Qq (Qp _ _) (Qz)) rfl (desk_Run_I (r16, r18))) (fun rr HH hp => ?_)
 obtain ⟨β17, rfl, rfl⟩ := hp
 refine Qa (Ql rfl rfl) ?_
 refine Qa (Ji rfl rfl rfl) ?_
 refine Qa (Ji rfl rfl rfl) ?_
 refine Qa (Qi rfl rfl) ?_
 refine Qa (Qi rfl rfl) ?_
 refine Qo (Qe (Qj (Qj (Qc ?_))))
 refine Qa (Ql rfl rfl) ?_
 refine Qa (ps_neq rfl rfl rfl) ?_
 refine Qo (Qe ?_)
 refine Jc rfl (fun h20 => ?_) (fun h20 => ?_)
 replace H := Jt h20 H
 refine Qj (Qc ?_)
 refine Qa (Ql rfl rfl) ?_
 refine Qa (ps_len rfl (by constructor) rfl) ?_
 refine GoO.lenLe (n := r12.length) (x := .tmp 38) rfl (by constructor) own_lenLe (fun ml21 => ?_)
 refine Qa (ps_eql rfl rfl rfl) ?_
 refine Qa (Qi rfl rfl) ?_
 refine Qo (Qe ?_)
 obtain rfl := Qf H
 exact Jh (ds := [.v (.bool (decide (((r12.length : Nat) : Int) = 0)))]) Tryd.results3 (Qt (Qv rfl) (Je)) (Qm _) ⟨rfl, rfl⟩
 replace H := Ju h20 H
 refine Jg (Qe (Qj (Qc ?_)))
 refine Qa (Ql rfl rfl) ?_
 refine Qa (ps_eql rfl rfl rfl) ?_
 refine Qa (Ql rfl rfl) ?_
 refine GoO.guardD rfl rfl rfl rfl (fun h22 => ?_) (fun h22 => ?_)
 replace H := Jt h22 H
 refine Qa (Ql rfl rfl) ?_
 refine Jl rfl rfl rfl ?_
 refine Qa (ps_len rfl (by constructor) rfl) ?_
 refine GoO.lenLe (n := r16.length) (x := .tmp 44) rfl (by constructor) own_lenLe (fun ml23 => ?_)
 refine Jl rfl rfl rfl ?_
 refine Qa (Ql rfl rfl) ?_
 refine Jl rfl rfl rfl ?_
 refine Qa (ps_len rfl (by constructor) rfl) ?_
 refine GoO.lenLe (n := r12.length) (x := .tmp 46) rfl (by constructor) own_lenLe (fun ml24 => ?_)
 refine Jl rfl rfl rfl ?_
 refine Qa (ps_leq rfl rfl rfl) ?_
 refine Qa (ps_pickT rfl rfl rfl) ?_
 refine Qa (Ql rfl rfl) ?_
 refine GoO.guardD rfl rfl rfl rfl (fun h25 => ?_) (fun h25 => ?_)
 replace H := Jt h25 H
 refine Qa (Ql rfl rfl) ?_
 refine Jl rfl rfl rfl ?_
 refine Qa (Ql rfl rfl) ?_
 refine Jl rfl rfl rfl ?_
 refine Qa (Ql rfl rfl) ?_
 refine Jl rfl rfl rfl ?_
 refine Qa (ps_len rfl (by constructor) rfl) ?_
 refine Jl rfl rfl rfl ?_
 have c26 := ck_l H; replace H := ck_r H
 refine Qa (ps_slice rfl (Bd.no _) (Bd.nat _ _ r16.length _ rfl) (Nat.zero_le _) c26 rfl) ?_
 refine GoO.le (Le.shift Js (by have := c26; first | omega | (simp only [szl]; omega) | (simp only [szl, eldI]; omega))) ?_
 refine GoO.le (Le.reH Js (HLe.part (xs := r12) (r := 0 + 0) (len := r16.length) (by have := c26; first | omega | (simp only [szl]; omega)))) ?_
 generalize (⟨β13.b, β13.o + (0 + 0) * 1, β13.s - (0 + 0)⟩ : BK) = β27
 refine Jl rfl rfl rfl ?_
 have hb := Jd H; clear H
 obtain ⟨r28, e29, H⟩ := hb
 refine GoO.effC (ef_call rfl (Qm _) (Qd _ _ _ _ _ Qk (Qd _ _ _ _ _ Qk (Qm _))) (slices_Equal_string_spec r16 (subl r12 0 r16.length) e29) (Qq (Lend.all' Qw (by first | rfl | omega | (simp only [szl] <;> first | rfl | omega)) rfl) (Qq (Lend.all' Js (by first | rfl | omega | (simp only [szl] <;> first | rfl | omega)) rfl) (Qz))) rfl (slices_Equal_string_I (r28))) (fun rr HH hp => ?_)
 obtain ⟨rfl, rfl⟩ := hp
 refine Qa (ps_pickT rfl rfl rfl) ?_
 refine Qa (Qi rfl rfl) ?_
 refine Qo (Qe ?_)
 obtain rfl := Qf H
 exact Jh (ds := [.v (.bool r28)]) Tryd.results3 (Qt (Qv rfl) (Je)) (Qm _) ⟨rfl, rfl⟩
 replace H := Ju h25 H
 refine Ja rfl rfl rfl rfl ?_
 refine Ja rfl rfl rfl rfl ?_
 refine Ja rfl rfl rfl rfl ?_
 refine Ja rfl rfl rfl rfl ?_
 refine Ja rfl rfl rfl rfl ?_
 refine Qa (ps_pickF rfl rfl rfl) ?_
 refine Qa (Qi rfl rfl) ?_
 refine Qo (Qe ?_)
 obtain rfl := Qf H
 exact Jh (ds := [.v (.bool false)]) Tryd.results3 (Qt (Qv rfl) (Je)) (Qm _) ⟨rfl, rfl⟩
 replace H := Ju h22 H
 refine Ja rfl rfl rfl rfl ?_
 refine Ja rfl rfl rfl rfl ?_
 refine Ja rfl rfl rfl rfl ?_
 refine Ja rfl rfl rfl rfl ?_
 refine Qa (ps_pickF rfl rfl rfl) ?_
 refine Qa (Ql rfl rfl) ?_
 refine Ja rfl rfl rfl rfl ?_
 refine Ja rfl rfl rfl rfl ?_
 refine Ja rfl rfl rfl rfl ?_
 refine Ja rfl rfl rfl rfl ?_
 refine Ja rfl rfl rfl rfl ?_
 refine Ja rfl rfl rfl rfl ?_
 refine Qa (ps_pickF rfl rfl rfl) ?_
 refine Qa (Qi rfl rfl) ?_
 refine Qo (Qe ?_)
 obtain rfl := Qf H
 exact Jh (ds := [.v (.bool false)]) Tryd.results3 (Qt (Qv rfl) (Je)) (Qm _) ⟨rfl, rfl⟩
 replace H := Jt h5 H
 refine Ja rfl rfl rfl rfl ?_
 refine Ja rfl rfl rfl rfl ?_
 refine Ja rfl rfl rfl rfl ?_
 refine Qa (ps_pickT rfl rfl rfl) ?_
 refine Qo (Qe ?_)
 refine GoC.condT rfl ?_
 refine Qj (Qc ?_)
 refine Qa (Qi rfl rfl) ?_
 refine Qo (Qe ?_)
 obtain rfl := Qf H
 exact Jh (ds := [.v (.bool false)]) Tryd.results3 (Qt (Qv rfl) (Je)) (Qm _) ⟨rfl, rfl⟩
end Go.Proofs.YthchdnemndolbaaDoor
namespace Go.Proofs.YthchdnemndolbaaDoor
open Go Go.Proofs.YthchdnemndolbaaDoor.Sx
set_option linter.unusedVariables false
set_option linter.unusedSimpArgs false
theorem front_line : desk_Run_F (⟨#[97, 114, 99, 32, 48, 32, 49, 32, 55, 10, 118, 97, 108, 117, 101, 10, 110, 111, 10, 117, 110, 100, 111, 10, 97, 114, 99, 115]⟩ : ByteArray) = some ([(⟨#[111, 107]⟩ : ByteArray), (⟨#[55]⟩ : ByteArray), (⟨#[101, 114, 114, 111, 114, 32, 49, 50]⟩ : ByteArray), (⟨#[111, 107]⟩ : ByteArray), (⟨#[48]⟩ : ByteArray)], 0) := by kernel_rfl
theorem DeskFront_true (a b : ByteArray) (ha : a.size ≤ 1048576) (hb : b.size ≤ 1048576) : weirkeep_DeskFront_F a b = some true := by
  have hn : (⟨#[10]⟩ : ByteArray).size = 1 := rfl
  have hs1 : (a ++ (⟨#[10]⟩ : ByteArray)).size = a.size + 1 := by rw [ByteArray.size_append, hn]
  have hs : ((a ++ (⟨#[10]⟩ : ByteArray)) ++ b).size = a.size + 1 + b.size := by rw [ByteArray.size_append, hs1]
  have hL : linesOf ((a ++ (⟨#[10]⟩ : ByteArray)) ++ b) = linesOf a ++ linesOf b := cutB_append 10 a b
  unfold weirkeep_DeskFront_F
  rw [front_line, bind_some']
  dsimp only
  rw [if_neg (by decide), equalStr_eq, decide_eq_true rfl, bind_some', if_neg (by decide), ck_some (by rw [hn]; omega), ck_some (by rw [hs1]; omega), run_eq _ (by rw [hs]; omega), run_eq a (by omega)]
  by_cases c : 4096 < ((a ++ (⟨#[10]⟩ : ByteArray)) ++ b).size ∨ 60 < (linesOf ((a ++ (⟨#[10]⟩ : ByteArray)) ++ b)).length
  · rw [if_pos c, bind_some']
    dsimp only
    by_cases c2 : 4096 < a.size ∨ 60 < (linesOf a).length
    · rw [if_pos c2, bind_some']
      rfl
    · rw [if_neg c2, bind_some']
      rfl
  · have hlen : (linesOf ((a ++ (⟨#[10]⟩ : ByteArray)) ++ b)).length = (linesOf a).length + (linesOf b).length := by rw [hL, List.length_append]
    rw [hs, hlen] at c
    rw [if_neg (by rw [hs, hlen]; exact c), bind_some', if_neg (by omega), bind_some']
    dsimp only
    have hA := out_ok a (by omega)
    obtain ⟨_, o, ho⟩ := fold_ok (linesOf b) (fun t ht => Nat.le_trans (cutB_size 10 b t ht) (by omega)) hA
    have hO : (deskOut ((a ++ (⟨#[10]⟩ : ByteArray)) ++ b)).2 = (deskOut a).2 ++ o := by
      unfold deskOut
      rw [hL, List.foldl_append]
      exact ho
    rw [if_neg (by decide), if_pos rfl, hO, if_pos (by rw [List.length_append]; omega), ck_some (by rw [List.length_append]; omega), equalStr_eq, bind_some']
    refine congrArg some (decide_eq_true ?_)
    unfold subl
    simp
end Go.Proofs.YthchdnemndolbaaDoor
