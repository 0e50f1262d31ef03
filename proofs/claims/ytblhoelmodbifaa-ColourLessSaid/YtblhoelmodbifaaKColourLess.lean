/- The functions weirkeep.ColourLess, told as plain functions, and that the code does as they say. -/
import Derived.Test.YtblhoelmodbifaaTys
import Derived.Test.YtblhoelmodbifaaDat
import Derived.Test.YtblhoelmodbifaaGcolour
import Derived.Test.YtblhoelmodbifaaGkeep
namespace Go.Proofs.Ytblhoelmodbifaa
open Go Go.Proofs.Ytblhoelmodbifaa.Sx
set_option linter.unusedVariables false
set_option linter.unusedSimpArgs false
def weirkeep_ColourLess_c1_F (p0 : Int) (c_0 : Arc) (c_1 : Graph) : Option (Int) :=
 if p0 = (max c_0.f c_0.t) then
  some (min c_0.f c_0.t)
 else
  ck (InI (c_1.n - 1)) <|
  if p0 = (c_1.n - 1) then
   some (max c_0.f c_0.t)
  else
   some p0
def weirkeep_ColourLess_c1_P (out : Int) (d : D) (H : List HL) : Prop := d = .v (.int .i64 out) ∧ H = []
theorem weirkeep_ColourLess_c1_I (out : Int) : IndepP (weirkeep_ColourLess_c1_P out) := IndepP.of (by rintro _ _ ⟨rfl, rfl⟩; exact ⟨inferInstance, inferInstance⟩)
set_option maxRecDepth 100000 in
set_option maxHeartbeats 4000000 in
theorem weirkeep_ColourLess_c1_spec (p0 : Int) (c_0 : Arc) (c_1 : Graph) {out : Int} (H : weirkeep_ColourLess_c1_F p0 c_0 c_1 = some out) : Does Try.prog 39 [.v (.int .i64 p0), .rp 3 1 (row [c_0]).get 0 0, .rp 2 1 (row [c_1]).get 0 0] [] (weirkeep_ColourLess_c1_P out) := by
 unfold weirkeep_ColourLess_c1_F at H
 refine Does.intro Try.func39 rfl Try.ntmps39 rfl fun w0 I0 => ?_
 refine GoC.seq ?_
 refine GoC.region ?_
 refine GoO.pure (ps_assign rfl rfl) ?_
 refine GoO.nil ?_
 refine GoK.code ?_
 refine GoC.seq ?_
 refine GoC.seq ?_
 refine GoC.region ?_
 refine GoO.pure (ps_move rfl rfl) ?_
 refine GoO.pure (ps_fieldAddrR rfl rfl) ?_
 refine GoO.pure (ps_loadR rfl Nat.zero_lt_one rfl rfl) ?_
 refine GoO.pure (ps_fieldAddrR rfl rfl) ?_
 refine GoO.pure (ps_loadR rfl Nat.zero_lt_one rfl rfl) ?_
 refine GoO.pure (ps_max rfl rfl rfl) ?_
 refine GoO.pure (ps_eql rfl rfl rfl) ?_
 refine GoO.nil ?_
 refine GoK.code ?_
 refine GoC.condD rfl (fun h1 => ?_) (fun h1 => ?_)
 replace H := ite_t h1 H
 refine GoC.seq ?_
 refine GoC.region ?_
 refine GoO.pure (ps_fieldAddrR rfl rfl) ?_
 refine GoO.pure (ps_loadR rfl Nat.zero_lt_one rfl rfl) ?_
 refine GoO.pure (ps_fieldAddrR rfl rfl) ?_
 refine GoO.pure (ps_loadR rfl Nat.zero_lt_one rfl rfl) ?_
 refine GoO.pure (ps_min rfl rfl rfl) ?_
 refine GoO.pure (ps_assign rfl rfl) ?_
 refine GoO.nil ?_
 refine GoK.code ?_
 obtain rfl := Option.some.inj H
 exact GoC.retL (ds := [.v (.int .i64 (min c_0.f c_0.t))]) Try.results39 (ResL.cons (ResD.tmp rfl) (ResL.nil)) (Take.nil _) ⟨rfl, rfl⟩
 replace H := ite_f h1 H
 refine GoC.skip ?_
 refine GoK.code ?_
 refine GoC.seq ?_
 refine GoC.seq ?_
 refine GoC.region ?_
 refine GoO.pure (ps_move rfl rfl) ?_
 refine GoO.pure (ps_fieldAddrR rfl rfl) ?_
 refine GoO.pure (ps_loadR rfl Nat.zero_lt_one rfl rfl) ?_
 have c2 := ck_l H; replace H := ck_r H
 refine GoO.pure (ps_sub rfl rfl rfl c2) ?_
 refine GoO.pure (ps_eql rfl rfl rfl) ?_
 refine GoO.nil ?_
 refine GoK.code ?_
 refine GoC.condD rfl (fun h3 => ?_) (fun h3 => ?_)
 replace H := ite_t h3 H
 refine GoC.seq ?_
 refine GoC.region ?_
 refine GoO.pure (ps_fieldAddrR rfl rfl) ?_
 refine GoO.pure (ps_loadR rfl Nat.zero_lt_one rfl rfl) ?_
 refine GoO.pure (ps_fieldAddrR rfl rfl) ?_
 refine GoO.pure (ps_loadR rfl Nat.zero_lt_one rfl rfl) ?_
 refine GoO.pure (ps_max rfl rfl rfl) ?_
 refine GoO.pure (ps_assign rfl rfl) ?_
 refine GoO.nil ?_
 refine GoK.code ?_
 obtain rfl := Option.some.inj H
 exact GoC.retL (ds := [.v (.int .i64 (max c_0.f c_0.t))]) Try.results39 (ResL.cons (ResD.tmp rfl) (ResL.nil)) (Take.nil _) ⟨rfl, rfl⟩
 replace H := ite_f h3 H
 refine GoC.skip ?_
 refine GoK.code ?_
 refine GoC.seq ?_
 refine GoC.region ?_
 refine GoO.pure (ps_move rfl rfl) ?_
 refine GoO.pure (ps_assign rfl rfl) ?_
 refine GoO.nil ?_
 refine GoK.code ?_
 obtain rfl := Option.some.inj H
 exact GoC.retL (ds := [.v (.int .i64 p0)]) Try.results39 (ResL.cons (ResD.tmp rfl) (ResL.nil)) (Take.nil _) ⟨rfl, rfl⟩

def weirkeep_ColourLess_B1 (g : Graph) : Nat → (List Arc) → Option ((List Arc)) := fun k35 l30 =>
 (weirkeep_ColourLess_c1_F (((subl g.as 1 (g.as.length - 1)).getD k35 El.d).f) (g.as.getD 0 El.d) g).bind fun r38 =>
 (weirkeep_ColourLess_c1_F (((subl g.as 1 (g.as.length - 1)).getD k35 El.d).t) (g.as.getD 0 El.d) g).bind fun r40 =>
 ck (l30.length + 1 ≤ 5864062014805) <|
 some (l30 ++ ([(⟨r38, r40, 0⟩ : Arc)] : List Arc))
def weirkeep_ColourLess_F (g : Graph) (many : Int) : Option (Bool) :=
 (weirkeep_three_F).bind fun r2 =>
 (colour_Count_F r2 3).bind fun (r5, r6) =>
 if r6 ≠ 0 then
  some false
 else
  if r5 ≠ 6 then
   some false
  else
   (colour_Count_F g many).bind fun (r10, r11) =>
   if r11 ≠ 0 then
    if r11 = 0 then
     some true
    else
     some (decide (r10 = 0))
   else
    if ((g.as.length : Nat) : Int) = 0 then
     if r11 = 0 then
      some true
     else
      some (decide (r10 = 0))
    else
     ck (1 ≤ g.as.length) <|
     (colour_Count_F (⟨g.n, (subl g.as 1 (g.as.length - 1))⟩ : Graph) many).bind fun (r19, r20) =>
     ck (0 < g.as.length) <|
     if ((g.as.getD 0 El.d).f) = ((g.as.getD 0 El.d).t) then
      if r20 = 0 then
       some (decide (r10 = 0))
      else
       some false
     else
      ck (InI (g.n - 1)) <|
      (forN (weirkeep_ColourLess_B1 g) ((subl g.as 1 (g.as.length - 1)).length) 0 []).bind fun l34 =>
      (colour_Count_F (⟨(g.n - 1), l34⟩ : Graph) many).bind fun (r58, r59) =>
      if r20 = 0 then
       if r59 = 0 then
        ck (InI (r19 - r58)) <|
        some (decide (r10 = (r19 - r58)))
       else
        some false
      else
       some false
def weirkeep_ColourLess_P (out : Bool) (d : D) (H : List HL) : Prop := d = .v (.bool out) ∧ H = []
theorem weirkeep_ColourLess_I (out : Bool) : IndepP (weirkeep_ColourLess_P out) := IndepP.of (by rintro _ _ ⟨rfl, rfl⟩; exact ⟨inferInstance, inferInstance⟩)
set_option maxRecDepth 100000 in
set_option maxHeartbeats 4000000 in
theorem weirkeep_ColourLess_spec (g : Graph) (many : Int) {out : Bool} (H : weirkeep_ColourLess_F g many = some out) : Does Try.prog 11 [.ag 2 (nth [.v (.int .i64 g.n), slD g.as]), .v (.int .i64 many)] [] (weirkeep_ColourLess_P out) := by
 unfold weirkeep_ColourLess_F at H
 refine Does.intro Try.func11 rfl Try.ntmps11 rfl fun w0 I0 => ?_
 refine GoC.seq ?_
 refine GoC.region ?_
 refine GoO.effB (ef_boxAg rfl rfl) (fun β1 => ?_)
 refine GoO.pure (ps_assign rfl rfl) ?_
 refine GoO.nil ?_
 refine GoK.code ?_
 refine GoC.seq ?_
 refine GoC.seq ?_
 refine GoC.region ?_
 have hb := bind_l H; clear H
 obtain ⟨r2, e4, H⟩ := hb
 refine GoO.effC (ef_call rfl (Take.nil _) (Take.nil _) (weirkeep_three_spec e4) (LendL.nil) rfl (weirkeep_three_I (r2))) (fun rr HH hp => ?_)
 obtain ⟨β3, rfl, rfl⟩ := hp
 have hb := bind_l H; clear H
 obtain ⟨⟨r5, r6⟩, e7, H⟩ := hb
 refine GoO.effC (ef_call rfl (Take.nil _) (Take.cons _ _ _ _ _ Rem.p0 (Take.nil _)) (colour_Count_spec r2 3 e7) (LendL.cons (Lend.agA ⟨⟨trivial, Lend.refl _ _⟩, Lend.all' At.p0 (by first | rfl | omega | (simp only [subl_length, List.length_set, List.length_append, List.length_cons, List.length_nil, List.length_replicate, row_len] <;> first | rfl | omega)) rfl⟩) (LendL.cons (Lend.refl _ _) (LendL.nil))) rfl (colour_Count_I (r5, r6))) (fun rr HH hp => ?_)
 obtain ⟨rfl, rfl⟩ := hp
 refine GoO.pure (ps_move rfl rfl) ?_
 refine GoO.pure (ps_extract rfl rfl rfl) ?_
 refine GoO.pure (ps_extract rfl rfl rfl) ?_
 refine GoO.pure (ps_assign rfl rfl) ?_
 refine GoO.pure (ps_assign rfl rfl) ?_
 refine GoO.nil ?_
 refine GoK.code ?_
 refine GoC.seq ?_
 refine GoC.region ?_
 refine GoO.pure (ps_move rfl rfl) ?_
 refine GoO.pure (ps_neq rfl rfl rfl) ?_
 refine GoO.pure (ps_move rfl rfl) ?_
 refine GoO.guardE rfl rfl rfl rfl (fun h8 => ?_) (fun h8 => ?_)
 replace H := ite_f h8 H
 refine GoO.pure (ps_move rfl rfl) ?_
 refine GoO.guardT rfl rfl rfl ?_
 refine GoO.pure (ps_neq rfl rfl rfl) ?_
 refine GoO.pure (ps_pickF rfl rfl rfl) ?_
 refine GoO.nil ?_
 refine GoK.code ?_
 refine GoC.condD rfl (fun h9 => ?_) (fun h9 => ?_)
 replace H := ite_t h9 H
 refine GoC.seq ?_
 refine GoC.region ?_
 refine GoO.pure (ps_assign rfl rfl) ?_
 refine GoO.nil ?_
 refine GoK.code ?_
 obtain rfl := Option.some.inj H
 exact GoC.retL (ds := [.v (.bool false)]) Try.results11 (ResL.cons (ResD.tmp rfl) (ResL.nil)) (Take.nil _) ⟨rfl, rfl⟩
 replace H := ite_f h9 H
 refine GoC.skip ?_
 refine GoK.code ?_
 refine GoC.seq ?_
 refine GoC.region ?_
 refine GoO.pure (ps_loadAg rfl At.p1 At.p1 Nat.zero_lt_one rfl rfl) ?_
 refine GoO.pure (ps_move rfl rfl) ?_
 have hb := bind_l H; clear H
 obtain ⟨⟨r10, r11⟩, e12, H⟩ := hb
 refine GoO.effC (ef_call rfl (Take.nil _) (Take.nil _) (colour_Count_spec g many e12) (LendL.cons (Lend.agA ⟨⟨trivial, Lend.refl _ _⟩, Lend.refl _ _⟩) (LendL.cons (Lend.refl _ _) (LendL.nil))) rfl (colour_Count_I (r10, r11))) (fun rr HH hp => ?_)
 obtain ⟨rfl, rfl⟩ := hp
 refine GoO.pure (ps_move rfl rfl) ?_
 refine GoO.pure (ps_extract rfl rfl rfl) ?_
 refine GoO.pure (ps_extract rfl rfl rfl) ?_
 refine GoO.pure (ps_assign rfl rfl) ?_
 refine GoO.pure (ps_assign rfl rfl) ?_
 refine GoO.nil ?_
 refine GoK.code ?_
 refine GoC.seq ?_
 refine GoC.seq ?_
 refine GoC.region ?_
 refine GoO.pure (ps_move rfl rfl) ?_
 refine GoO.pure (ps_neq rfl rfl rfl) ?_
 refine GoO.pure (ps_move rfl rfl) ?_
 refine GoO.guardE rfl rfl rfl rfl (fun h13 => ?_) (fun h13 => ?_)
 replace H := ite_f h13 H
 refine GoO.pure (ps_fieldAddr rfl rfl) ?_
 refine GoO.guardT rfl rfl rfl ?_
 refine GoO.pure (ps_load rfl At.p1 At.p1 Nat.zero_lt_one rfl rfl) ?_
 refine GoO.guardT rfl rfl rfl ?_
 refine GoO.pure (ps_len rfl (by constructor) rfl) ?_
 refine GoO.lenLe (n := g.as.length) (x := .tmp 40) rfl (by constructor) sl_lenLe (fun ml14 => ?_)
 refine GoO.guardT rfl rfl rfl ?_
 refine GoO.pure (ps_eql rfl rfl rfl) ?_
 refine GoO.pure (ps_pickF rfl rfl rfl) ?_
 refine GoO.nil ?_
 refine GoK.code ?_
 refine GoC.condD rfl (fun h15 => ?_) (fun h15 => ?_)
 replace H := ite_t h15 H
 refine GoC.seq ?_
 refine GoC.region ?_
 refine GoO.pure (ps_move rfl rfl) ?_
 refine GoO.pure (ps_eql rfl rfl rfl) ?_
 refine GoO.pure (ps_move rfl rfl) ?_
 refine GoO.guardE rfl rfl rfl rfl (fun h16 => ?_) (fun h16 => ?_)
 replace H := ite_f h16 H
 refine GoO.pure (ps_move rfl rfl) ?_
 refine GoO.guardT rfl rfl rfl ?_
 refine GoO.pure (ps_eql rfl rfl rfl) ?_
 refine GoO.pure (ps_pickF rfl rfl rfl) ?_
 refine GoO.pure (ps_assign rfl rfl) ?_
 refine GoO.nil ?_
 refine GoK.code ?_
 obtain rfl := Option.some.inj H
 exact GoC.retL (ds := [.v (.bool (decide (r10 = 0)))]) Try.results11 (ResL.cons (ResD.tmp rfl) (ResL.nil)) (Take.nil _) ⟨rfl, rfl⟩
 replace H := ite_t h16 H
 refine GoO.guardF rfl rfl rfl rfl ?_
 refine GoO.pure (ps_pickT rfl rfl rfl) ?_
 refine GoO.pure (ps_assign rfl rfl) ?_
 refine GoO.nil ?_
 refine GoK.code ?_
 obtain rfl := Option.some.inj H
 exact GoC.retL (ds := [.v (.bool true)]) Try.results11 (ResL.cons (ResD.tmp rfl) (ResL.nil)) (Take.nil _) ⟨rfl, rfl⟩
 replace H := ite_f h15 H
 refine GoC.skip ?_
 refine GoK.code ?_
 refine GoC.seq ?_
 refine GoC.drawA (.q 0 (.q 1 (.q 2 (.q 3 (.q 4 (.q 5 (.one 6 (.one 7 (.done))))))))) follows (by kernel_rfl) ?_
 refine GoP.qN rfl (ps_fieldAddr rfl rfl) ?_
 refine GoP.qN rfl (ps_load rfl At.p1 At.p1 Nat.zero_lt_one rfl rfl) ?_
 refine GoP.qN rfl (ps_fieldAddr rfl rfl) ?_
 refine GoP.qN rfl (ps_load rfl At.p1 At.p1 Nat.zero_lt_one rfl rfl) ?_
 have c17 := ck_l H; replace H := ck_r H
 refine GoP.qN rfl (ps_sliceR rfl (Bd.nat _ _ 1 _ rfl) (Bd.no _) c17 (Nat.le_refl _) rfl) ?_
 refine GoP.leD (Le.re 54 rfl (DLe.part (xs := g.as) (r := 1) (len := g.as.length - 1) (by have := c17; first | omega | (simp only [subl_length, List.length_set, List.length_append, List.length_cons, List.length_nil, List.length_replicate, row_len]; omega)))) ?_
 refine GoP.qN rfl (ps_build (Parts.cons _ _ _ _ _ _ _ _ FdP.of (Part.one _ rfl rfl) rfl rfl (Parts.cons _ _ _ _ _ _ _ _ FdP.of (Part.one _ rfl rfl) rfl rfl (Parts.nil _))) rfl) ?_
 refine GoP.oneB rfl trivial (ef_alloc rfl) (Take.cons _ _ _ _ _ Rem.p0 (Take.cons _ _ _ _ _ Rem.p0 (Take.nil _))) (fun β18 => ?_)
 refine GoP.one1 rfl trivial (ef_storeAg rfl rfl At.p0 upd_whole Nat.zero_lt_one rfl) (Take.cons _ _ _ _ _ Rem.p0 (Take.cons _ _ _ _ _ Rem.p0 (Take.cons _ _ _ _ _ Rem.p0 (Take.nil _)))) ?_
 refine GoP.done ?_
 refine GoK.code ?_
 refine GoC.seq ?_
 refine GoC.region ?_
 refine GoO.pure (ps_loadAg rfl At.p0 At.p0 Nat.zero_lt_one rfl rfl) ?_
 refine GoO.pure (ps_move rfl rfl) ?_
 have hb := bind_l H; clear H
 obtain ⟨⟨r19, r20⟩, e21, H⟩ := hb
 refine GoO.effC (ef_call rfl (Take.nil _) (Take.nil _) (colour_Count_spec (⟨g.n, (subl g.as 1 (g.as.length - 1))⟩ : Graph) many e21) (LendL.cons (Lend.agA ⟨⟨trivial, Lend.refl _ _⟩, Lend.refl _ _⟩) (LendL.cons (Lend.refl _ _) (LendL.nil))) rfl (colour_Count_I (r19, r20))) (fun rr HH hp => ?_)
 obtain ⟨rfl, rfl⟩ := hp
 refine GoO.pure (ps_move rfl rfl) ?_
 refine GoO.pure (ps_extract rfl rfl rfl) ?_
 refine GoO.pure (ps_extract rfl rfl rfl) ?_
 refine GoO.pure (ps_assign rfl rfl) ?_
 refine GoO.pure (ps_assign rfl rfl) ?_
 refine GoO.nil ?_
 refine GoK.code ?_
 refine GoC.seq ?_
 refine GoC.region ?_
 refine GoO.pure (ps_fieldAddr rfl rfl) ?_
 refine GoO.pure (ps_load rfl At.p2 At.p2 Nat.zero_lt_one rfl rfl) ?_
 have c22 := ck_l H; replace H := ck_r H
 refine GoO.pure (ps_indexAddrRN (i := 0) rfl rfl c22 rfl) ?_
 refine GoO.pure (ps_loadAgR rfl c22 rfl rfl) ?_
 refine GoO.effB (ef_alloc rfl) (fun β23 => ?_)
 refine GoO.eff1 (ef_storeAg rfl rfl At.p0 upd_whole Nat.zero_lt_one rfl) ?_
 refine GoO.nil ?_
 refine GoK.code ?_
 refine GoC.seq ?_
 refine GoC.seq ?_
 refine GoC.region ?_
 refine GoO.pure (ps_fieldAddr rfl rfl) ?_
 refine GoO.pure (ps_load rfl At.p0 At.p0 Nat.zero_lt_one rfl rfl) ?_
 refine GoO.pure (ps_fieldAddr rfl rfl) ?_
 refine GoO.pure (ps_load rfl At.p0 At.p0 Nat.zero_lt_one rfl rfl) ?_
 refine GoO.pure (ps_eql rfl rfl rfl) ?_
 refine GoO.nil ?_
 refine GoK.code ?_
 refine GoC.condD rfl (fun h24 => ?_) (fun h24 => ?_)
 replace H := ite_t h24 H
 refine GoC.seq ?_
 refine GoC.region ?_
 refine GoO.pure (ps_move rfl rfl) ?_
 refine GoO.pure (ps_eql rfl rfl rfl) ?_
 refine GoO.pure (ps_move rfl rfl) ?_
 refine GoO.guardD rfl rfl rfl rfl (fun h25 => ?_) (fun h25 => ?_)
 replace H := ite_t h25 H
 refine GoO.pure (ps_move rfl rfl) ?_
 refine GoO.guardT rfl rfl rfl ?_
 refine GoO.pure (ps_eql rfl rfl rfl) ?_
 refine GoO.pure (ps_pickT rfl rfl rfl) ?_
 refine GoO.pure (ps_assign rfl rfl) ?_
 refine GoO.nil ?_
 refine GoK.code ?_
 obtain rfl := Option.some.inj H
 exact GoC.retL (ds := [.v (.bool (decide (r10 = 0)))]) Try.results11 (ResL.cons (ResD.tmp rfl) (ResL.nil)) (Take.nil _) ⟨rfl, rfl⟩
 replace H := ite_f h25 H
 refine GoO.guardF rfl rfl rfl rfl ?_
 refine GoO.pure (ps_pickF rfl rfl rfl) ?_
 refine GoO.pure (ps_assign rfl rfl) ?_
 refine GoO.nil ?_
 refine GoK.code ?_
 obtain rfl := Option.some.inj H
 exact GoC.retL (ds := [.v (.bool false)]) Try.results11 (ResL.cons (ResD.tmp rfl) (ResL.nil)) (Take.nil _) ⟨rfl, rfl⟩
 replace H := ite_f h24 H
 refine GoC.skip ?_
 refine GoK.code ?_
 refine GoC.seq ?_
 refine GoC.region ?_
 refine GoO.pure (ps_fieldAddr rfl rfl) ?_
 refine GoO.pure (ps_load rfl At.p3 At.p3 Nat.zero_lt_one rfl rfl) ?_
 have c26 := ck_l H; replace H := ck_r H
 refine GoO.pure (ps_sub rfl rfl rfl c26) ?_
 refine GoO.pure (ps_build (Parts.cons _ _ _ _ _ _ _ _ FdP.of (Part.one _ rfl rfl) rfl rfl (Parts.nil _)) rfl) ?_
 refine GoO.effB (ef_alloc rfl) (fun β27 => ?_)
 refine GoO.eff1 (ef_storeAg rfl rfl At.p0 upd_whole Nat.zero_lt_one rfl) ?_
 refine GoO.nil ?_
 refine GoK.code ?_
 refine GoC.seq ?_
 refine GoC.region ?_
 refine GoO.pure (ps_makeFunc rfl rfl rfl) ?_
 refine GoO.pure (ps_assign rfl rfl) ?_
 refine GoO.nil ?_
 refine GoK.code ?_
 refine GoC.seq ?_
 refine GoC.seq ?_
 refine GoC.region ?_
 refine GoO.pure (ps_fieldAddr rfl rfl) ?_
 refine GoO.pure (ps_load rfl At.p2 At.p2 Nat.zero_lt_one rfl rfl) ?_
 refine GoO.pure (ps_len rfl (by constructor) rfl) ?_
 refine GoO.lenLe (n := (subl g.as 1 (g.as.length - 1)).length) (x := .tmp 83) rfl (by constructor) sl_lenLe (fun ml28 => ?_)
 refine GoO.pure (ps_move rfl rfl) ?_
 refine GoO.nil ?_
 refine GoK.code ?_
 have hb := bind_l H; clear H
 obtain ⟨l34, hl57, HK31⟩ := hb
 refine GoC.blockJ [(1, .v (.int .i64 many)), (7, .v (.int .i64 r10)), (10, .v (.int .i64 r19)), (11, .v (.int .i64 r20))] [.one β23 43 3 (st1 (nth [.v (.int .i64 ((g.as.getD 0 El.d).f)), .v (.int .i64 ((g.as.getD 0 El.d).t)), .v (.int .i64 ((g.as.getD 0 El.d).c))])), .one β18 33 2 (st1 (nth [.v (.int .i64 g.n), slD (subl g.as 1 (g.as.length - 1))])), .one β3 43 3 (row r2.as), .one β1 33 2 (st1 (nth [.v (.int .i64 g.n), slD g.as]))] (fun v h => ∃ (β29 : BK), v = [(13, .ptr β27 2 0 0)] ∧ h = [.one β29 43 3 (row l34), .one β27 33 2 (st1 (nth [.v (.int .i64 (g.n - 1)), .own β29 3 0 l34.length]))]) ?_ ?_
 refine GoC.loopJ [(1, _), (7, _), (10, _), (11, _), (14, _), (83, _), (84, _)] [.one β23 43 3 (st1 (nth [.v (.int .i64 ((g.as.getD 0 El.d).f)), .v (.int .i64 ((g.as.getD 0 El.d).t)), .v (.int .i64 ((g.as.getD 0 El.d).c))])), .one β18 33 2 (st1 (nth [.v (.int .i64 g.n), slD (subl g.as 1 (g.as.length - 1))])), .one β3 43 3 (row r2.as), .one β1 33 2 (st1 (nth [.v (.int .i64 g.n), slD g.as]))] (fun m v h => ∃ (k35 : Nat) (l30 : (List Arc)) (β29 : BK), (k35 + m = (subl g.as 1 (g.as.length - 1)).length ∧ forN (weirkeep_ColourLess_B1 g) m k35 l30 = some l34) ∧ v = [(85, .v (.int .i64 ((k35 : Nat) : Int))), (13, .ptr β27 2 0 0)] ∧ h = [.one β29 43 3 (row l30), .one β27 33 2 (st1 (nth [.v (.int .i64 (g.n - 1)), .own β29 3 0 l30.length]))]) ((subl g.as 1 (g.as.length - 1)).length) ⟨_, _, ⟨0, 0, 0⟩, ⟨by omega, hl57⟩, rfl, rfl⟩ (EnvD.eq rfl (EnvD.eq rfl (EnvD.eq rfl (EnvD.eq rfl (EnvD.eq rfl (EnvD.eq rfl (EnvD.eq rfl (EnvD.eq rfl (EnvD.eq rfl (EnvD.nil)))))))))) (TkD.no _ _ _ _ _ rfl (TkD.cons _ _ _ _ _ Rem.p0 (HLe.st ⟨⟨trivial, DLe.refl _⟩, DLe.nilOwn⟩) (TkD.cons _ _ _ _ _ Rem.p0 (HLe.st ⟨⟨⟨trivial, DLe.refl _⟩, DLe.refl _⟩, DLe.refl _⟩) (TkD.cons _ _ _ _ _ Rem.p0 (HLe.st ⟨⟨trivial, DLe.refl _⟩, DLe.refl _⟩) (TkD.cons _ _ _ _ _ Rem.p0 (HLe.refl _) (TkD.cons _ _ _ _ _ Rem.p0 (HLe.st ⟨⟨trivial, DLe.refl _⟩, DLe.refl _⟩) (TkD.nil _))))))) ?_
 rintro m36 v h ⟨k35, l30, β29, ⟨hkk35, hF32⟩, rfl, rfl⟩
 refine GoC.seq ?_
 refine GoC.region ?_
 refine GoO.pure (ps_lss rfl rfl rfl) ?_
 refine GoO.nil ?_
 refine GoK.code ?_
 refine GoC.seq ?_
 refine GoC.condD rfl (fun (hk35 : (k35 : Int) < (((subl g.as 1 (g.as.length - 1)).length : Nat) : Int)) => ?_) (fun (hk35 : ¬ (k35 : Int) < (((subl g.as 1 (g.as.length - 1)).length : Nat) : Int)) => ?_)
 obtain ⟨m36', rfl⟩ : ∃ x, m36 = x + 1 := ⟨m36 - 1, by omega⟩
 have hb := bind_l hF32; clear hF32
 obtain ⟨qrm36, H, hF32⟩ := hb
 have hnk35 : k35 < (subl g.as 1 (g.as.length - 1)).length := by omega
 have hIk35 : InI ((k35 : Int) + 1) := inI_len hk35 ml28
 refine GoC.skip ?_
 refine GoK.code ?_
 refine GoC.seq ?_
 refine GoC.block ?_
 refine GoC.seq ?_
 refine GoC.region ?_
 refine GoO.pure (ps_indexAddrRN rfl rfl hnk35 rfl) ?_
 refine GoO.pure (ps_loadAgR rfl hnk35 rfl rfl) ?_
 refine GoO.effB (ef_alloc rfl) (fun β37 => ?_)
 refine GoO.eff1 (ef_storeAg rfl rfl At.p0 upd_whole Nat.zero_lt_one rfl) ?_
 refine GoO.nil ?_
 refine GoK.code ?_
 refine GoC.drawP (.q 0 (.q 2 (.q 3 (.q 4 (.q 6 (.q 7 (.q 8 (.two 1 5 (.one 5 (.one 9 (.q 10 (.one 11 (.one 12 (.q 13 (.one 14 (.done)))))))) (.two 1 9 (.one 9 (.q 10 (.one 11 (.one 12 (.q 13 (.one 14 (.done))))))) (.q 10 (.two 1 11 (.one 11 (.one 12 (.q 13 (.one 14 (.done))))) (.one 1 (.one 12 (.q 13 (.one 14 (.done)))))))))))))))) [(16, _, _, _)] follows (by kernel_rfl) (Take.cons _ _ _ _ _ Rem.p0 (Take.nil _)) ?_
 refine GoP.qN rfl (ps_fieldAddr rfl rfl) ?_
 refine GoP.qN rfl (ps_move rfl rfl) ?_
 refine GoP.qN rfl (ps_fieldAddr rfl rfl) ?_
 refine GoP.qN rfl (ps_load rfl At.p0 At.p0 Nat.zero_lt_one rfl rfl) ?_
 refine GoP.qN rfl (ps_move rfl rfl) ?_
 refine GoP.qN rfl (ps_fieldAddr rfl rfl) ?_
 refine GoP.qN rfl (ps_load rfl At.p0 At.p0 Nat.zero_lt_one rfl rfl) ?_
 have hb := bind_l H; clear H
 obtain ⟨r38, e39, H⟩ := hb
 have hb := bind_l H; clear H
 obtain ⟨r40, e41, H⟩ := hb
 have c44 := ck_l H; replace H := ck_r H
 apply GoP.fork2
 exact rfl
 exact rfl
 exact trivial
 exact trivial
 exact Eff.pure (H1 := [.one β37 43 3 (st1 (nth [.v (.int .i64 (((subl g.as 1 (g.as.length - 1)).getD k35 El.d).f)), .v (.int .i64 (((subl g.as 1 (g.as.length - 1)).getD k35 El.d).t)), .v (.int .i64 (((subl g.as 1 (g.as.length - 1)).getD k35 El.d).c))])), .one β29 43 3 (row l30), .one β27 33 2 (st1 (nth [.v (.int .i64 (g.n - 1)), .own β29 3 0 l30.length])), .one β23 43 3 (st1 (nth [.v (.int .i64 ((g.as.getD 0 El.d).f)), .v (.int .i64 ((g.as.getD 0 El.d).t)), .v (.int .i64 ((g.as.getD 0 El.d).c))])), .one β18 33 2 (st1 (nth [.v (.int .i64 g.n), slD (subl g.as 1 (g.as.length - 1))])), .one β3 43 3 (row r2.as), .one β1 33 2 (st1 (nth [.v (.int .i64 g.n), slD g.as]))]) (ps_load rfl At.p2 At.p2 Nat.zero_lt_one rfl rfl)
 exact ef_callv rfl rfl rfl (Take.nil _) (Take.cons _ _ _ _ _ Rem.p3 (Take.cons _ _ _ _ _ Rem.p5 (Take.nil _))) (weirkeep_ColourLess_c1_spec (((subl g.as 1 (g.as.length - 1)).getD k35 El.d).f) (g.as.getD 0 El.d) g e39) (LendL.cons (Lend.refl _ _) (LendL.cons (Lend.box (ds := [.v (.int .i64 ((g.as.getD 0 El.d).f)), .v (.int .i64 ((g.as.getD 0 El.d).t)), .v (.int .i64 ((g.as.getD 0 El.d).c))]) At.p0 rfl (by decide) ⟨⟨⟨trivial, rfl⟩, rfl⟩, rfl⟩ (LendL.cons (Lend.refl _ _) (LendL.cons (Lend.refl _ _) (LendL.cons (Lend.refl _ _) (LendL.nil)))) ⟨⟨⟨trivial, rfl⟩, rfl⟩, rfl⟩ rfl) (LendL.cons (Lend.box (ds := [.v (.int .i64 g.n), slD g.as]) At.p1 rfl (by decide) ⟨⟨trivial, rfl⟩, rfl⟩ (LendL.cons (Lend.refl _ _) (LendL.cons (Lend.refl _ _) (LendL.nil))) ⟨⟨trivial, rfl⟩, rfl⟩ rfl) (LendL.nil)))) rfl (weirkeep_ColourLess_c1_I (r38))
 exact (Take.cons _ _ _ _ _ Rem.p0 (Take.nil _))
 exact (Take.cons _ _ _ _ _ Rem.p0 (Take.nil _))
 intro hQ
 rintro _ rfl
 refine GoP.oneC rfl trivial (ef_callv rfl rfl rfl (Take.nil _) (Take.cons _ _ _ _ _ Rem.p3 (Take.cons _ _ _ _ _ Rem.p5 (Take.nil _))) (weirkeep_ColourLess_c1_spec (((subl g.as 1 (g.as.length - 1)).getD k35 El.d).f) (g.as.getD 0 El.d) g e39) (LendL.cons (Lend.refl _ _) (LendL.cons (Lend.box (ds := [.v (.int .i64 ((g.as.getD 0 El.d).f)), .v (.int .i64 ((g.as.getD 0 El.d).t)), .v (.int .i64 ((g.as.getD 0 El.d).c))]) At.p0 rfl (by decide) ⟨⟨⟨trivial, rfl⟩, rfl⟩, rfl⟩ (LendL.cons (Lend.refl _ _) (LendL.cons (Lend.refl _ _) (LendL.cons (Lend.refl _ _) (LendL.nil)))) ⟨⟨⟨trivial, rfl⟩, rfl⟩, rfl⟩ rfl) (LendL.cons (Lend.box (ds := [.v (.int .i64 g.n), slD g.as]) At.p1 rfl (by decide) ⟨⟨trivial, rfl⟩, rfl⟩ (LendL.cons (Lend.refl _ _) (LendL.cons (Lend.refl _ _) (LendL.nil))) ⟨⟨trivial, rfl⟩, rfl⟩ rfl) (LendL.nil)))) rfl (weirkeep_ColourLess_c1_I (r38))) (Take.cons _ _ _ _ _ Rem.p0 (Take.nil _)) (fun rr HH hp => ?_)
 obtain ⟨rfl, rfl⟩ := hp
 refine GoP.oneC rfl trivial (ef_callv rfl rfl rfl (Take.nil _) (Take.cons _ _ _ _ _ Rem.p3 (Take.cons _ _ _ _ _ Rem.p5 (Take.nil _))) (weirkeep_ColourLess_c1_spec (((subl g.as 1 (g.as.length - 1)).getD k35 El.d).t) (g.as.getD 0 El.d) g e41) (LendL.cons (Lend.refl _ _) (LendL.cons (Lend.box (ds := [.v (.int .i64 ((g.as.getD 0 El.d).f)), .v (.int .i64 ((g.as.getD 0 El.d).t)), .v (.int .i64 ((g.as.getD 0 El.d).c))]) At.p0 rfl (by decide) ⟨⟨⟨trivial, rfl⟩, rfl⟩, rfl⟩ (LendL.cons (Lend.refl _ _) (LendL.cons (Lend.refl _ _) (LendL.cons (Lend.refl _ _) (LendL.nil)))) ⟨⟨⟨trivial, rfl⟩, rfl⟩, rfl⟩ rfl) (LendL.cons (Lend.box (ds := [.v (.int .i64 g.n), slD g.as]) At.p1 rfl (by decide) ⟨⟨trivial, rfl⟩, rfl⟩ (LendL.cons (Lend.refl _ _) (LendL.cons (Lend.refl _ _) (LendL.nil))) ⟨⟨trivial, rfl⟩, rfl⟩ rfl) (LendL.nil)))) rfl (weirkeep_ColourLess_c1_I (r40))) (Take.cons _ _ _ _ _ Rem.p0 (Take.nil _)) (fun rr HH hp => ?_)
 obtain ⟨rfl, rfl⟩ := hp
 refine GoP.qN rfl (ps_build (Parts.cons _ _ _ _ _ _ _ _ FdP.of (Part.one _ rfl rfl) rfl rfl (Parts.cons _ _ _ _ _ _ _ _ FdP.of (Part.one _ rfl rfl) rfl rfl (Parts.nil _))) rfl) ?_
 refine GoP.oneB rfl trivial (ef_buildSlice (row ([(⟨r38, r40, 0⟩ : Arc)] : List Arc)) rfl (Parts.cons _ _ _ _ _ _ _ _ ⟨rfl, rfl⟩ (Part.ag _ _ rfl) rfl rfl (Parts.nil _)) rfl rfl rfl rfl) (Take.cons _ _ _ _ _ Rem.p0 (Take.nil _)) (fun β45 => ?_)
 refine GoP.oneB rfl trivial (ef_append rfl rfl Rem.p2 (Src.own At.p0 (by first | omega | (simp only [subl_length, List.length_set, List.length_append, List.length_cons, List.length_nil, List.length_replicate, row_len]; omega) | (simp only [subl_length, List.length_set, List.length_append, List.length_cons, List.length_nil, List.length_replicate, row_len]; done))) (cat_row (α := Arc) (by first | rfl | omega | (simp only [subl_length, List.length_set, List.length_append, List.length_cons, List.length_nil, List.length_replicate, row_len] <;> first | rfl | omega)) (by first | rfl | omega | (simp only [subl_length, List.length_set, List.length_append, List.length_cons, List.length_nil, List.length_replicate, row_len] <;> first | rfl | omega)) (fun _ _ _ _ => rfl)) (by first | omega | (simp only [subl_length, List.length_set, List.length_append, List.length_cons, List.length_nil, List.length_replicate, row_len]; omega) | (simp only [subl_length, List.length_set, List.length_append, List.length_cons, List.length_nil, List.length_replicate, row_len]; done)) (app_le c44 rfl) rfl rfl rfl) (Take.cons _ _ _ _ _ Rem.p2 (Take.cons _ _ _ _ _ Rem.p1 (Take.nil _))) (fun β46 => ?_)
 refine GoP.qN rfl (ps_fieldAddr rfl rfl) ?_
 refine GoP.one1 rfl trivial (ef_store rfl rfl rfl At.p3 upd_st1 Nat.zero_lt_one rfl) (Take.cons _ _ _ _ _ Rem.p3 (Take.cons _ _ _ _ _ Rem.p2 (Take.nil _))) ?_
 exact GoP.done (hQ β45 β46)
 intro hQ
 rintro _ ⟨_, _, hp, rfl⟩
 obtain ⟨rfl, rfl⟩ := hp
 apply GoP.fork2
 exact rfl
 exact rfl
 exact trivial
 exact trivial
 exact Eff.pure (H1 := [.one β37 43 3 (st1 (nth [.v (.int .i64 (((subl g.as 1 (g.as.length - 1)).getD k35 El.d).f)), .v (.int .i64 (((subl g.as 1 (g.as.length - 1)).getD k35 El.d).t)), .v (.int .i64 (((subl g.as 1 (g.as.length - 1)).getD k35 El.d).c))])), .one β29 43 3 (row l30), .one β27 33 2 (st1 (nth [.v (.int .i64 (g.n - 1)), .own β29 3 0 l30.length])), .one β23 43 3 (st1 (nth [.v (.int .i64 ((g.as.getD 0 El.d).f)), .v (.int .i64 ((g.as.getD 0 El.d).t)), .v (.int .i64 ((g.as.getD 0 El.d).c))])), .one β18 33 2 (st1 (nth [.v (.int .i64 g.n), slD (subl g.as 1 (g.as.length - 1))])), .one β3 43 3 (row r2.as), .one β1 33 2 (st1 (nth [.v (.int .i64 g.n), slD g.as]))]) (ps_load rfl At.p2 At.p2 Nat.zero_lt_one rfl rfl)
 exact ef_callv rfl rfl rfl (Take.nil _) (Take.cons _ _ _ _ _ Rem.p3 (Take.cons _ _ _ _ _ Rem.p5 (Take.nil _))) (weirkeep_ColourLess_c1_spec (((subl g.as 1 (g.as.length - 1)).getD k35 El.d).t) (g.as.getD 0 El.d) g e41) (LendL.cons (Lend.refl _ _) (LendL.cons (Lend.box (ds := [.v (.int .i64 ((g.as.getD 0 El.d).f)), .v (.int .i64 ((g.as.getD 0 El.d).t)), .v (.int .i64 ((g.as.getD 0 El.d).c))]) At.p0 rfl (by decide) ⟨⟨⟨trivial, rfl⟩, rfl⟩, rfl⟩ (LendL.cons (Lend.refl _ _) (LendL.cons (Lend.refl _ _) (LendL.cons (Lend.refl _ _) (LendL.nil)))) ⟨⟨⟨trivial, rfl⟩, rfl⟩, rfl⟩ rfl) (LendL.cons (Lend.box (ds := [.v (.int .i64 g.n), slD g.as]) At.p1 rfl (by decide) ⟨⟨trivial, rfl⟩, rfl⟩ (LendL.cons (Lend.refl _ _) (LendL.cons (Lend.refl _ _) (LendL.nil))) ⟨⟨trivial, rfl⟩, rfl⟩ rfl) (LendL.nil)))) rfl (weirkeep_ColourLess_c1_I (r40))
 exact (Take.cons _ _ _ _ _ Rem.p0 (Take.nil _))
 exact (Take.cons _ _ _ _ _ Rem.p0 (Take.nil _))
 intro hQ
 rintro _ rfl
 refine GoP.oneC rfl trivial (ef_callv rfl rfl rfl (Take.nil _) (Take.cons _ _ _ _ _ Rem.p3 (Take.cons _ _ _ _ _ Rem.p5 (Take.nil _))) (weirkeep_ColourLess_c1_spec (((subl g.as 1 (g.as.length - 1)).getD k35 El.d).t) (g.as.getD 0 El.d) g e41) (LendL.cons (Lend.refl _ _) (LendL.cons (Lend.box (ds := [.v (.int .i64 ((g.as.getD 0 El.d).f)), .v (.int .i64 ((g.as.getD 0 El.d).t)), .v (.int .i64 ((g.as.getD 0 El.d).c))]) At.p0 rfl (by decide) ⟨⟨⟨trivial, rfl⟩, rfl⟩, rfl⟩ (LendL.cons (Lend.refl _ _) (LendL.cons (Lend.refl _ _) (LendL.cons (Lend.refl _ _) (LendL.nil)))) ⟨⟨⟨trivial, rfl⟩, rfl⟩, rfl⟩ rfl) (LendL.cons (Lend.box (ds := [.v (.int .i64 g.n), slD g.as]) At.p1 rfl (by decide) ⟨⟨trivial, rfl⟩, rfl⟩ (LendL.cons (Lend.refl _ _) (LendL.cons (Lend.refl _ _) (LendL.nil))) ⟨⟨trivial, rfl⟩, rfl⟩ rfl) (LendL.nil)))) rfl (weirkeep_ColourLess_c1_I (r40))) (Take.cons _ _ _ _ _ Rem.p0 (Take.nil _)) (fun rr HH hp => ?_)
 obtain ⟨rfl, rfl⟩ := hp
 refine GoP.qN rfl (ps_build (Parts.cons _ _ _ _ _ _ _ _ FdP.of (Part.one _ rfl rfl) rfl rfl (Parts.cons _ _ _ _ _ _ _ _ FdP.of (Part.one _ rfl rfl) rfl rfl (Parts.nil _))) rfl) ?_
 refine GoP.oneB rfl trivial (ef_buildSlice (row ([(⟨r38, r40, 0⟩ : Arc)] : List Arc)) rfl (Parts.cons _ _ _ _ _ _ _ _ ⟨rfl, rfl⟩ (Part.ag _ _ rfl) rfl rfl (Parts.nil _)) rfl rfl rfl rfl) (Take.cons _ _ _ _ _ Rem.p0 (Take.nil _)) (fun β49 => ?_)
 refine GoP.oneB rfl trivial (ef_append rfl rfl Rem.p2 (Src.own At.p0 (by first | omega | (simp only [subl_length, List.length_set, List.length_append, List.length_cons, List.length_nil, List.length_replicate, row_len]; omega) | (simp only [subl_length, List.length_set, List.length_append, List.length_cons, List.length_nil, List.length_replicate, row_len]; done))) (cat_row (α := Arc) (by first | rfl | omega | (simp only [subl_length, List.length_set, List.length_append, List.length_cons, List.length_nil, List.length_replicate, row_len] <;> first | rfl | omega)) (by first | rfl | omega | (simp only [subl_length, List.length_set, List.length_append, List.length_cons, List.length_nil, List.length_replicate, row_len] <;> first | rfl | omega)) (fun _ _ _ _ => rfl)) (by first | omega | (simp only [subl_length, List.length_set, List.length_append, List.length_cons, List.length_nil, List.length_replicate, row_len]; omega) | (simp only [subl_length, List.length_set, List.length_append, List.length_cons, List.length_nil, List.length_replicate, row_len]; done)) (app_le c44 rfl) rfl rfl rfl) (Take.cons _ _ _ _ _ Rem.p2 (Take.cons _ _ _ _ _ Rem.p1 (Take.nil _))) (fun β50 => ?_)
 refine GoP.qN rfl (ps_fieldAddr rfl rfl) ?_
 refine GoP.one1 rfl trivial (ef_store rfl rfl rfl At.p3 upd_st1 Nat.zero_lt_one rfl) (Take.cons _ _ _ _ _ Rem.p3 (Take.cons _ _ _ _ _ Rem.p2 (Take.nil _))) ?_
 exact GoP.done (hQ β49 β50)
 intro hQ
 rintro _ ⟨_, _, hp, rfl⟩
 obtain ⟨rfl, rfl⟩ := hp
 refine GoP.qN rfl (ps_build (Parts.cons _ _ _ _ _ _ _ _ FdP.of (Part.one _ rfl rfl) rfl rfl (Parts.cons _ _ _ _ _ _ _ _ FdP.of (Part.one _ rfl rfl) rfl rfl (Parts.nil _))) rfl) ?_
 apply GoP.fork2
 exact rfl
 exact rfl
 exact trivial
 exact trivial
 exact Eff.pure (H1 := [.one β37 43 3 (st1 (nth [.v (.int .i64 (((subl g.as 1 (g.as.length - 1)).getD k35 El.d).f)), .v (.int .i64 (((subl g.as 1 (g.as.length - 1)).getD k35 El.d).t)), .v (.int .i64 (((subl g.as 1 (g.as.length - 1)).getD k35 El.d).c))])), .one β29 43 3 (row l30), .one β27 33 2 (st1 (nth [.v (.int .i64 (g.n - 1)), .own β29 3 0 l30.length])), .one β23 43 3 (st1 (nth [.v (.int .i64 ((g.as.getD 0 El.d).f)), .v (.int .i64 ((g.as.getD 0 El.d).t)), .v (.int .i64 ((g.as.getD 0 El.d).c))])), .one β18 33 2 (st1 (nth [.v (.int .i64 g.n), slD (subl g.as 1 (g.as.length - 1))])), .one β3 43 3 (row r2.as), .one β1 33 2 (st1 (nth [.v (.int .i64 g.n), slD g.as]))]) (ps_load rfl At.p2 At.p2 Nat.zero_lt_one rfl rfl)
 exact ef_buildSlice (row ([(⟨r38, r40, 0⟩ : Arc)] : List Arc)) rfl (Parts.cons _ _ _ _ _ _ _ _ ⟨rfl, rfl⟩ (Part.ag _ _ rfl) rfl rfl (Parts.nil _)) rfl rfl rfl rfl
 exact (Take.cons _ _ _ _ _ Rem.p0 (Take.nil _))
 exact (Take.cons _ _ _ _ _ Rem.p0 (Take.nil _))
 intro hQ
 rintro _ rfl
 refine GoP.oneB rfl trivial (ef_buildSlice (row ([(⟨r38, r40, 0⟩ : Arc)] : List Arc)) rfl (Parts.cons _ _ _ _ _ _ _ _ ⟨rfl, rfl⟩ (Part.ag _ _ rfl) rfl rfl (Parts.nil _)) rfl rfl rfl rfl) (Take.cons _ _ _ _ _ Rem.p0 (Take.nil _)) (fun β54 => ?_)
 refine GoP.oneB rfl trivial (ef_append rfl rfl Rem.p2 (Src.own At.p0 (by first | omega | (simp only [subl_length, List.length_set, List.length_append, List.length_cons, List.length_nil, List.length_replicate, row_len]; omega) | (simp only [subl_length, List.length_set, List.length_append, List.length_cons, List.length_nil, List.length_replicate, row_len]; done))) (cat_row (α := Arc) (by first | rfl | omega | (simp only [subl_length, List.length_set, List.length_append, List.length_cons, List.length_nil, List.length_replicate, row_len] <;> first | rfl | omega)) (by first | rfl | omega | (simp only [subl_length, List.length_set, List.length_append, List.length_cons, List.length_nil, List.length_replicate, row_len] <;> first | rfl | omega)) (fun _ _ _ _ => rfl)) (by first | omega | (simp only [subl_length, List.length_set, List.length_append, List.length_cons, List.length_nil, List.length_replicate, row_len]; omega) | (simp only [subl_length, List.length_set, List.length_append, List.length_cons, List.length_nil, List.length_replicate, row_len]; done)) (app_le c44 rfl) rfl rfl rfl) (Take.cons _ _ _ _ _ Rem.p2 (Take.cons _ _ _ _ _ Rem.p1 (Take.nil _))) (fun β55 => ?_)
 refine GoP.qN rfl (ps_fieldAddr rfl rfl) ?_
 refine GoP.one1 rfl trivial (ef_store rfl rfl rfl At.p3 upd_st1 Nat.zero_lt_one rfl) (Take.cons _ _ _ _ _ Rem.p3 (Take.cons _ _ _ _ _ Rem.p2 (Take.nil _))) ?_
 exact GoP.done (hQ β54 β55)
 intro hQ
 rintro _ ⟨β53, rfl⟩
 refine GoP.oneN rfl (ps_load rfl At.p3 At.p3 Nat.zero_lt_one rfl rfl) (Take.cons _ _ _ _ _ Rem.p1 (Take.nil _)) ?_
 refine GoP.oneB rfl trivial (ef_append rfl rfl Rem.p2 (Src.own At.p0 (by first | omega | (simp only [subl_length, List.length_set, List.length_append, List.length_cons, List.length_nil, List.length_replicate, row_len]; omega) | (simp only [subl_length, List.length_set, List.length_append, List.length_cons, List.length_nil, List.length_replicate, row_len]; done))) (cat_row (α := Arc) (by first | rfl | omega | (simp only [subl_length, List.length_set, List.length_append, List.length_cons, List.length_nil, List.length_replicate, row_len] <;> first | rfl | omega)) (by first | rfl | omega | (simp only [subl_length, List.length_set, List.length_append, List.length_cons, List.length_nil, List.length_replicate, row_len] <;> first | rfl | omega)) (fun _ _ _ _ => rfl)) (by first | omega | (simp only [subl_length, List.length_set, List.length_append, List.length_cons, List.length_nil, List.length_replicate, row_len]; omega) | (simp only [subl_length, List.length_set, List.length_append, List.length_cons, List.length_nil, List.length_replicate, row_len]; done)) (app_le c44 rfl) rfl rfl rfl) (Take.cons _ _ _ _ _ Rem.p2 (Take.cons _ _ _ _ _ Rem.p1 (Take.nil _))) (fun β56 => ?_)
 refine GoP.qN rfl (ps_fieldAddr rfl rfl) ?_
 refine GoP.one1 rfl trivial (ef_store rfl rfl rfl At.p3 upd_st1 Nat.zero_lt_one rfl) (Take.cons _ _ _ _ _ Rem.p3 (Take.cons _ _ _ _ _ Rem.p2 (Take.nil _))) ?_
 refine GoP.done (GoK.le ?_ (hQ β53 β56))
 refine Le.ofDW ?_ (TkD.cons _ _ _ _ _ Rem.p0 (HLe.refl _) (TkD.cons _ _ _ _ _ Rem.p0 (HLe.refl _) (TkD.cons _ _ _ _ _ Rem.p0 (HLe.refl _) (TkD.cons _ _ _ _ _ Rem.p0 (HLe.refl _) (TkD.cons _ _ _ _ _ Rem.p0 (HLe.refl _) (TkD.cons _ _ _ _ _ Rem.p0 (HLe.refl _) (TkD.cons _ _ _ _ _ Rem.p0 (HLe.refl _) (TkD.cons _ _ _ _ _ Rem.p0 (HLe.refl _) (TkD.nil _)))))))))
 repeat (first | exact EnvLeW.nil | refine EnvLeW.cons rfl ?_ | refine EnvLeW.skip rfl ?_)
 intro β54 β55
 refine GoK.le ?_ (hQ β54 β55)
 refine Le.ofDW ?_ (TkD.cons _ _ _ _ _ Rem.p0 (HLe.refl _) (TkD.cons _ _ _ _ _ Rem.p0 (HLe.refl _) (TkD.cons _ _ _ _ _ Rem.p0 (HLe.refl _) (TkD.cons _ _ _ _ _ Rem.p0 (HLe.refl _) (TkD.cons _ _ _ _ _ Rem.p0 (HLe.refl _) (TkD.cons _ _ _ _ _ Rem.p0 (HLe.refl _) (TkD.cons _ _ _ _ _ Rem.p0 (HLe.refl _) (TkD.cons _ _ _ _ _ Rem.p0 (HLe.refl _) (TkD.nil _)))))))))
 repeat (first | exact EnvLeW.nil | refine EnvLeW.cons rfl ?_ | refine EnvLeW.skip rfl ?_)
 intro β49 β50
 refine GoK.le ?_ (hQ β49 β50)
 refine Le.ofDW ?_ (TkD.cons _ _ _ _ _ Rem.p0 (HLe.refl _) (TkD.cons _ _ _ _ _ Rem.p0 (HLe.refl _) (TkD.cons _ _ _ _ _ Rem.p0 (HLe.refl _) (TkD.cons _ _ _ _ _ Rem.p0 (HLe.refl _) (TkD.cons _ _ _ _ _ Rem.p0 (HLe.refl _) (TkD.cons _ _ _ _ _ Rem.p0 (HLe.refl _) (TkD.cons _ _ _ _ _ Rem.p0 (HLe.refl _) (TkD.cons _ _ _ _ _ Rem.p0 (HLe.refl _) (TkD.nil _)))))))))
 repeat (first | exact EnvLeW.nil | refine EnvLeW.cons rfl ?_ | refine EnvLeW.skip rfl ?_)
 intro β45 β46
 refine GoK.blk ?_
 refine GoK.code ?_
 refine GoC.region ?_
 refine GoO.pure (ps_add rfl rfl rfl hIk35) ?_
 refine GoO.pure (ps_move rfl rfl) ?_
 refine GoO.nil ?_
 obtain rfl := Option.some.inj H
 exact GoK.againJ m36' (by omega) ⟨_, _, β46, ⟨by omega, hF32⟩, rfl, rfl⟩ (EnvD.eq rfl (EnvD.eq rfl (EnvD.eq rfl (EnvD.eq rfl (EnvD.eq rfl (EnvD.eq rfl (EnvD.eq rfl (EnvD.eq rfl (EnvD.eq rfl (EnvD.nil)))))))))) (TkD.cons _ _ _ _ _ Rem.p0 (HLe.refl _) (TkD.cons _ _ _ _ _ Rem.p2 (HLe.st ⟨⟨trivial, DLe.refl _⟩, DLe.len (by first | rfl | omega | (simp only [row_len, List.length_append, List.length_cons, List.length_nil] <;> first | rfl | omega))⟩) (TkD.cons _ _ _ _ _ Rem.p2 (HLe.st ⟨⟨⟨trivial, DLe.refl _⟩, DLe.refl _⟩, DLe.refl _⟩) (TkD.cons _ _ _ _ _ Rem.p2 (HLe.st ⟨⟨trivial, DLe.refl _⟩, DLe.refl _⟩) (TkD.cons _ _ _ _ _ Rem.p2 (HLe.refl _) (TkD.cons _ _ _ _ _ Rem.p2 (HLe.st ⟨⟨trivial, DLe.refl _⟩, DLe.refl _⟩) (TkD.nil _)))))))
 obtain rfl : m36 = 0 := by omega
 refine GoC.exit rfl ?_
 cases hF32
 exact GoK.meet ⟨β29, rfl, rfl⟩ (EnvD.eq rfl (EnvD.eq rfl (EnvD.eq rfl (EnvD.eq rfl (EnvD.eq rfl (EnvD.nil)))))) (TkD.cons _ _ _ _ _ Rem.p0 (HLe.refl _) (TkD.cons _ _ _ _ _ Rem.p0 (HLe.st ⟨⟨trivial, DLe.refl _⟩, DLe.len (by first | rfl | omega | (simp only [row_len] <;> first | rfl | omega))⟩) (TkD.cons _ _ _ _ _ Rem.p0 (HLe.st ⟨⟨⟨trivial, DLe.refl _⟩, DLe.refl _⟩, DLe.refl _⟩) (TkD.cons _ _ _ _ _ Rem.p0 (HLe.st ⟨⟨trivial, DLe.refl _⟩, DLe.refl _⟩) (TkD.cons _ _ _ _ _ Rem.p0 (HLe.refl _) (TkD.cons _ _ _ _ _ Rem.p0 (HLe.st ⟨⟨trivial, DLe.refl _⟩, DLe.refl _⟩) (TkD.nil _)))))))
 rintro v h ⟨β29, rfl, rfl⟩
 have H := HK31; clear HK31
 refine GoK.code ?_
 refine GoC.seq ?_
 refine GoC.region ?_
 refine GoO.pure (ps_loadAg rfl At.p1 At.p1 Nat.zero_lt_one rfl rfl) ?_
 refine GoO.pure (ps_move rfl rfl) ?_
 have hb := bind_l H; clear H
 obtain ⟨⟨r58, r59⟩, e60, H⟩ := hb
 refine GoO.effC (ef_call rfl (Take.nil _) (Take.cons _ _ _ _ _ Rem.p0 (Take.nil _)) (colour_Count_spec (⟨(g.n - 1), l34⟩ : Graph) many e60) (LendL.cons (Lend.agA ⟨⟨trivial, Lend.refl _ _⟩, Lend.all' At.p0 (by first | rfl | omega | (simp only [subl_length, List.length_set, List.length_append, List.length_cons, List.length_nil, List.length_replicate, row_len] <;> first | rfl | omega)) rfl⟩) (LendL.cons (Lend.refl _ _) (LendL.nil))) rfl (colour_Count_I (r58, r59))) (fun rr HH hp => ?_)
 obtain ⟨rfl, rfl⟩ := hp
 refine GoO.pure (ps_move rfl rfl) ?_
 refine GoO.pure (ps_extract rfl rfl rfl) ?_
 refine GoO.pure (ps_extract rfl rfl rfl) ?_
 refine GoO.pure (ps_assign rfl rfl) ?_
 refine GoO.pure (ps_assign rfl rfl) ?_
 refine GoO.nil ?_
 refine GoK.code ?_
 refine GoC.seq ?_
 refine GoC.region ?_
 refine GoO.pure (ps_move rfl rfl) ?_
 refine GoO.pure (ps_eql rfl rfl rfl) ?_
 refine GoO.pure (ps_move rfl rfl) ?_
 refine GoO.guardD rfl rfl rfl rfl (fun h61 => ?_) (fun h61 => ?_)
 replace H := ite_t h61 H
 refine GoO.pure (ps_move rfl rfl) ?_
 refine GoO.guardT rfl rfl rfl ?_
 refine GoO.pure (ps_eql rfl rfl rfl) ?_
 refine GoO.pure (ps_pickT rfl rfl rfl) ?_
 refine GoO.pure (ps_move rfl rfl) ?_
 refine GoO.guardD rfl rfl rfl rfl (fun h62 => ?_) (fun h62 => ?_)
 replace H := ite_t h62 H
 refine GoO.pure (ps_move rfl rfl) ?_
 refine GoO.guardT rfl rfl rfl ?_
 refine GoO.pure (ps_move rfl rfl) ?_
 refine GoO.guardT rfl rfl rfl ?_
 refine GoO.pure (ps_move rfl rfl) ?_
 refine GoO.guardT rfl rfl rfl ?_
 have c63 := ck_l H; replace H := ck_r H
 refine GoO.pure (ps_sub rfl rfl rfl c63) ?_
 refine GoO.guardT rfl rfl rfl ?_
 refine GoO.pure (ps_eql rfl rfl rfl) ?_
 refine GoO.pure (ps_pickT rfl rfl rfl) ?_
 refine GoO.pure (ps_assign rfl rfl) ?_
 refine GoO.nil ?_
 refine GoK.code ?_
 obtain rfl := Option.some.inj H
 exact GoC.retL (ds := [.v (.bool (decide (r10 = (r19 - r58))))]) Try.results11 (ResL.cons (ResD.tmp rfl) (ResL.nil)) (Take.nil _) ⟨rfl, rfl⟩
 replace H := ite_f h62 H
 refine GoO.guardF rfl rfl rfl rfl ?_
 refine GoO.guardF rfl rfl rfl rfl ?_
 refine GoO.guardF rfl rfl rfl rfl ?_
 refine GoO.guardF rfl rfl rfl rfl ?_
 refine GoO.pure (ps_pickF rfl rfl rfl) ?_
 refine GoO.pure (ps_assign rfl rfl) ?_
 refine GoO.nil ?_
 refine GoK.code ?_
 obtain rfl := Option.some.inj H
 exact GoC.retL (ds := [.v (.bool false)]) Try.results11 (ResL.cons (ResD.tmp rfl) (ResL.nil)) (Take.nil _) ⟨rfl, rfl⟩
 replace H := ite_f h61 H
 refine GoO.guardF rfl rfl rfl rfl ?_
 refine GoO.pure (ps_pickF rfl rfl rfl) ?_
 refine GoO.pure (ps_move rfl rfl) ?_
 refine GoO.guardF rfl rfl rfl rfl ?_
 refine GoO.guardF rfl rfl rfl rfl ?_
 refine GoO.guardF rfl rfl rfl rfl ?_
 refine GoO.guardF rfl rfl rfl rfl ?_
 refine GoO.guardF rfl rfl rfl rfl ?_
 refine GoO.pure (ps_pickF rfl rfl rfl) ?_
 refine GoO.pure (ps_assign rfl rfl) ?_
 refine GoO.nil ?_
 refine GoK.code ?_
 obtain rfl := Option.some.inj H
 exact GoC.retL (ds := [.v (.bool false)]) Try.results11 (ResL.cons (ResD.tmp rfl) (ResL.nil)) (Take.nil _) ⟨rfl, rfl⟩
 replace H := ite_t h13 H
 refine GoO.guardF rfl rfl rfl rfl ?_
 refine GoO.guardF rfl rfl rfl rfl ?_
 refine GoO.guardF rfl rfl rfl rfl ?_
 refine GoO.pure (ps_pickT rfl rfl rfl) ?_
 refine GoO.nil ?_
 refine GoK.code ?_
 refine GoC.condT rfl ?_
 refine GoC.seq ?_
 refine GoC.region ?_
 refine GoO.pure (ps_move rfl rfl) ?_
 refine GoO.pure (ps_eql rfl rfl rfl) ?_
 refine GoO.pure (ps_move rfl rfl) ?_
 refine GoO.guardE rfl rfl rfl rfl (fun h64 => ?_) (fun h64 => ?_)
 replace H := ite_f h64 H
 refine GoO.pure (ps_move rfl rfl) ?_
 refine GoO.guardT rfl rfl rfl ?_
 refine GoO.pure (ps_eql rfl rfl rfl) ?_
 refine GoO.pure (ps_pickF rfl rfl rfl) ?_
 refine GoO.pure (ps_assign rfl rfl) ?_
 refine GoO.nil ?_
 refine GoK.code ?_
 obtain rfl := Option.some.inj H
 exact GoC.retL (ds := [.v (.bool (decide (r10 = 0)))]) Try.results11 (ResL.cons (ResD.tmp rfl) (ResL.nil)) (Take.nil _) ⟨rfl, rfl⟩
 replace H := ite_t h64 H
 refine GoO.guardF rfl rfl rfl rfl ?_
 refine GoO.pure (ps_pickT rfl rfl rfl) ?_
 refine GoO.pure (ps_assign rfl rfl) ?_
 refine GoO.nil ?_
 refine GoK.code ?_
 obtain rfl := Option.some.inj H
 exact GoC.retL (ds := [.v (.bool true)]) Try.results11 (ResL.cons (ResD.tmp rfl) (ResL.nil)) (Take.nil _) ⟨rfl, rfl⟩
 replace H := ite_t h8 H
 refine GoO.guardF rfl rfl rfl rfl ?_
 refine GoO.pure (ps_pickT rfl rfl rfl) ?_
 refine GoO.nil ?_
 refine GoK.code ?_
 refine GoC.condT rfl ?_
 refine GoC.seq ?_
 refine GoC.region ?_
 refine GoO.pure (ps_assign rfl rfl) ?_
 refine GoO.nil ?_
 refine GoK.code ?_
 obtain rfl := Option.some.inj H
 exact GoC.retL (ds := [.v (.bool false)]) Try.results11 (ResL.cons (ResD.tmp rfl) (ResL.nil)) (Take.nil _) ⟨rfl, rfl⟩

end Go.Proofs.Ytblhoelmodbifaa
