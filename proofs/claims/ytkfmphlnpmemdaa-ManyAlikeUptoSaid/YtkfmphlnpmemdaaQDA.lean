import Derived.Test.YtkfmphlnpmemdaaQDat
set_option linter.unusedVariables false
set_option linter.unusedSimpArgs false
namespace Go.Proofs.Ytkfmphlnpmemdaa
open Go Go.Proofs.Ytkfmphlnpmemdaa.Sx
def slices_Equal_int_B1 (s1_ : (List Int)) (s2_ : (List Int)) : Nat → Unit → Option (Ct (Unit) (Bool)) := fun k7 _ =>
 ck (k7 < s2_.length) <|
 if (s1_.getD k7 (0 : Int)) ≠ (s2_.getD k7 (0 : Int)) then
  some (.ret false)
 else
  some (.go ())
def slices_Equal_int_F (s1_ : (List Int)) (s2_ : (List Int)) : Option (Bool) :=
 if ((s1_.length : Nat) : Int) ≠ ((s2_.length : Nat) : Int) then
  some false
 else
  (forC (slices_Equal_int_B1 s1_ s2_) s1_.length 0 ()).bind fun q => match q with
  | .go _ =>
   some true
  | .ret x => some x
def slices_Equal_int_P (out : Bool) (d : D) (H : List HL) : Prop := d = .v (.bool out) ∧ H = []
def slices_Equal_Errno_B1 (s1_ : (List Int)) (s2_ : (List Int)) : Nat → Unit → Option (Ct (Unit) (Bool)) := fun k7 _ =>
 ck (k7 < s2_.length) <|
 if (s1_.getD k7 (0 : Int)) ≠ (s2_.getD k7 (0 : Int)) then
  some (.ret false)
 else
  some (.go ())
def slices_Equal_Errno_F (s1_ : (List Int)) (s2_ : (List Int)) : Option (Bool) :=
 if ((s1_.length : Nat) : Int) ≠ ((s2_.length : Nat) : Int) then
  some false
 else
  (forC (slices_Equal_Errno_B1 s1_ s2_) s1_.length 0 ()).bind fun q => match q with
  | .go _ =>
   some true
  | .ret x => some x
def slices_Equal_Errno_P (out : Bool) (d : D) (H : List HL) : Prop := d = .v (.bool out) ∧ H = []
def slices_Equal_Arc_B1 (s1_ : (List Arc)) (s2_ : (List Arc)) : Nat → Unit → Option (Ct (Unit) (Bool)) := fun k7 _ =>
 ck (k7 < s2_.length) <|
 if ¬ (((s1_.getD k7 El.d).f) = ((s2_.getD k7 El.d).f) ∧ ((s1_.getD k7 El.d).t) = ((s2_.getD k7 El.d).t) ∧ ((s1_.getD k7 El.d).c) = ((s2_.getD k7 El.d).c)) then
  some (.ret false)
 else
  some (.go ())
def slices_Equal_Arc_F (s1_ : (List Arc)) (s2_ : (List Arc)) : Option (Bool) :=
 if ((s1_.length : Nat) : Int) ≠ ((s2_.length : Nat) : Int) then
  some false
 else
  (forC (slices_Equal_Arc_B1 s1_ s2_) s1_.length 0 ()).bind fun q => match q with
  | .go _ =>
   some true
  | .ret x => some x
def slices_Equal_Arc_P (out : Bool) (d : D) (H : List HL) : Prop := d = .v (.bool out) ∧ H = []
def slices_Clone_Arc_F (s_ : (List Arc)) : Option ((List Arc)) :=
 ck (0 + s_.length ≤ 5864062014805) <|
 some (([] : List Arc) ++ s_)
def slices_Clone_Arc_P (out : (List Arc)) (d : D) (H : List HL) : Prop := ∃ β1 : BK, d = .own β1 3 0 out.length ∧ H = [.one β1 57 3 (row out)]
def slices_Clone_int_F (s_ : (List Int)) : Option ((List Int)) :=
 ck (0 + s_.length ≤ 17592186044416) <|
 some (([] : List Int) ++ s_)
def slices_Clone_int_P (out : (List Int)) (d : D) (H : List HL) : Prop := ∃ β1 : BK, d = .own β1 1 0 out.length ∧ H = [.one β1 3 1 (row out)]
def slices_Grow_Piece_F (n_ : Int) : Option ((List Piece)) :=
 ((
  if n_ < 0 then
   none
  else
   some ()) : Option (Unit)).bind fun () =>
 ck (InI (0 - 0)) <|
 ck (InI (n_ - (0 - 0))) <|
 if 0 < (n_ - (0 - 0)) then
  ck (1 ≤ (n_ - (0 - 0)) ∧ (n_ - (0 - 0)) ≤ 10000000000) <|
  some (subl (List.replicate ((n_ - (0 - 0)).toNat) El.d) 0 0)
 else
  some []
def slices_Grow_Piece_P (out : (List Piece)) (d : D) (H : List HL) : Prop := ∃ β1 : BK, d = .own β1 2 0 out.length ∧ H = [.one β1 115 2 (row out)]
def slices_Concat_Piece_B1 (ss_ : (List (List Piece))) : Nat → Nat → Option (Nat) := fun k7 n2 =>
 ck (InI (((n2 : Nat) : Int) + (((ss_.getD k7 []).length : Nat) : Int))) <|
 if (((n2 + (ss_.getD k7 []).length) : Nat) : Int) < 0 then
  none
 else
  some (n2 + (ss_.getD k7 []).length)
def slices_Concat_Piece_B2 (ss_ : (List (List Piece))) : Nat → (List Piece) → Option ((List Piece)) := fun k22 l17 =>
 ck (l17.length + (ss_.getD k22 []).length ≤ 4398046511104) <|
 some (l17 ++ (ss_.getD k22 []))
def slices_Concat_Piece_F (ss_ : (List (List Piece))) : Option ((List Piece)) :=
 (forN (slices_Concat_Piece_B1 ss_) ss_.length 0 0).bind fun n6 =>
 (slices_Grow_Piece_F ((n6 : Nat) : Int)).bind fun r13 =>
 (forN (slices_Concat_Piece_B2 ss_) ss_.length 0 r13).bind fun l21 =>
 some l21
def slices_Concat_Piece_P (out : (List Piece)) (d : D) (H : List HL) : Prop := ∃ β1 : BK, d = .own β1 2 0 out.length ∧ H = [.one β1 115 2 (row out)]
def slices_Index_int_B1 (s_ : (List Int)) (v_ : Int) : Nat → Unit → Option (Ct (Unit) (Int)) := fun k5 _ =>
 if v_ = (s_.getD k5 (0 : Int)) then
  some (.ret ((k5 : Nat) : Int))
 else
  some (.go ())
def slices_Index_int_F (s_ : (List Int)) (v_ : Int) : Option (Int) :=
 (forC (slices_Index_int_B1 s_ v_) s_.length 0 ()).bind fun q => match q with
 | .go _ =>
  some (-1)
 | .ret x => some x
def slices_Index_int_P (out : Int) (d : D) (H : List HL) : Prop := d = .v (.int .i64 out) ∧ H = []
def slices_Contains_int_F (s_ : (List Int)) (v_ : Int) : Option (Bool) :=
 (slices_Index_int_F s_ v_).bind fun r1 =>
 some (decide (0 ≤ r1))
def slices_Contains_int_P (out : Bool) (d : D) (H : List HL) : Prop := d = .v (.bool out) ∧ H = []
def slices_Delete_Arc_F (l : (List Arc)) (i j : Int) : Option (List Arc) := ck (0 ≤ i) <| ck (i ≤ j) <| ck (j ≤ (l.length : Int)) <| ck (l.length ≤ 5864062014805) <| some (del l i.toNat j.toNat)
def slices_Delete_Arc_P (out : (List Arc)) (βl : BK) (d : D) (H : List HL) : Prop := ∃ β1 : BK, d = .own β1 3 0 out.length ∧ H = [.one β1 57 3 (row out)]
def slices_Delete_int_F (l : (List Int)) (i j : Int) : Option (List Int) := ck (0 ≤ i) <| ck (i ≤ j) <| ck (j ≤ (l.length : Int)) <| ck (l.length ≤ 17592186044416) <| some (del l i.toNat j.toNat)
def slices_Delete_int_P (out : (List Int)) (βl : BK) (d : D) (H : List HL) : Prop := ∃ β1 : BK, d = .own β1 1 0 out.length ∧ H = [.one β1 3 1 (row out)]
def slices_Index_string_B1 (s_ : (List ByteArray)) (v_ : ByteArray) : Nat → Unit → Option (Ct (Unit) (Int)) := fun k5 _ =>
 if v_ = (s_.getD k5 El.d) then
  some (.ret ((k5 : Nat) : Int))
 else
  some (.go ())
def slices_Index_string_F (s_ : (List ByteArray)) (v_ : ByteArray) : Option (Int) :=
 (forC (slices_Index_string_B1 s_ v_) s_.length 0 ()).bind fun q => match q with
 | .go _ =>
  some (-1)
 | .ret x => some x
def slices_Index_string_P (out : Int) (d : D) (H : List HL) : Prop := d = .v (.int .i64 out) ∧ H = []
def weirkeep_sameNet_F (a : Net) (b : Net) : Option (Bool) :=
 if a.n = b.n then
  if a.s = b.s then
   if a.t = b.t then
    (slices_Equal_Arc_F a.as b.as).bind fun r6 =>
    some r6
   else
    some false
  else
   some false
 else
  some false
def weirkeep_sameNet_P (out : Bool) (d : D) (H : List HL) : Prop := d = .v (.bool out) ∧ H = []
def weirref_Rest_F (n : Int) (m : Int) : Option (Int) :=
 ck ((m : Int) ≠ 0) <|
 if (Int.tmod n m) < 0 then
  ck (InI ((Int.tmod n m) + m)) <|
  some ((Int.tmod n m) + m)
 else
  some (Int.tmod n m)
def weirref_Rest_P (out : Int) (d : D) (H : List HL) : Prop := d = .v (.int .i64 out) ∧ H = []
def graph_check_B1 (g : Graph) (least : Int) : Nat → Unit → Option (Ct (Unit) (Int)) := fun k9 _ =>
 if ((g.as.getD k9 El.d).f) < 0 then
  some (.ret 4)
 else
  if g.n ≤ ((g.as.getD k9 El.d).f) then
   some (.ret 4)
  else
   if ((g.as.getD k9 El.d).t) < 0 then
    some (.ret 4)
   else
    if g.n ≤ ((g.as.getD k9 El.d).t) then
     some (.ret 4)
    else
     if ((g.as.getD k9 El.d).c) < least then
      some (.ret 1)
     else
      if 10000 < ((g.as.getD k9 El.d).c) then
       some (.ret 1)
      else
       some (.go ())
def graph_check_F (g : Graph) (least : Int) : Option (Int) :=
 if g.n < 1 then
  some 1
 else
  if 12 < g.n then
   some 1
  else
   if 60 < ((g.as.length : Nat) : Int) then
    some 2
   else
    (forC (graph_check_B1 g least) g.as.length 0 ()).bind fun q => match q with
    | .go _ =>
     some 0
    | .ret x => some x
def graph_check_P (out : Int) (d : D) (H : List HL) : Prop := d = .v (.int .i64 out) ∧ H = []
def graph_Check_F (g : Graph) : Option (Int) :=
 (graph_check_F g 0).bind fun r2 =>
 some r2
def graph_Check_P (out : Int) (d : D) (H : List HL) : Prop := d = .v (.int .i64 out) ∧ H = []
def graph_CheckNet_F (n : Net) : Option (Int) :=
 (graph_Check_F (⟨n.n, n.as⟩ : Graph)).bind fun r2 =>
 if r2 ≠ 0 then
  some r2
 else
  if n.s < 0 then
   some 4
  else
   if n.n ≤ n.s then
    some 4
   else
    if n.t < 0 then
     some 4
    else
     if n.n ≤ n.t then
      some 4
     else
      if n.s = n.t then
       some 3
      else
       some 0
def graph_CheckNet_P (out : Int) (d : D) (H : List HL) : Prop := d = .v (.int .i64 out) ∧ H = []
def flow_Check_B1 (n : Net) (f : (List Int)) : Nat → (Nat → Int) → Option (Ct ((Nat → Int)) (Int)) := fun k14 f9 =>
 if (f.getD k14 (0 : Int)) < 0 then
  some (.ret 7)
 else
  ck (k14 < n.as.length) <|
  if ((n.as.getD k14 El.d).c) < (f.getD k14 (0 : Int)) then
   some (.ret 7)
  else
   ck (0 ≤ (n.as.getD k14 El.d).f ∧ (n.as.getD k14 El.d).f < 12) <|
   ck (InI ((f9 (((n.as.getD k14 El.d).f).toNat)) - (f.getD k14 (0 : Int)))) <|
   ck (0 ≤ (n.as.getD k14 El.d).t ∧ (n.as.getD k14 El.d).t < 12) <|
   ck (InI (((updF f9 (((n.as.getD k14 El.d).f).toNat) ((f9 (((n.as.getD k14 El.d).f).toNat)) - (f.getD k14 (0 : Int)))) (((n.as.getD k14 El.d).t).toNat)) + (f.getD k14 (0 : Int)))) <|
   some (.go (updF (updF f9 (((n.as.getD k14 El.d).f).toNat) ((f9 (((n.as.getD k14 El.d).f).toNat)) - (f.getD k14 (0 : Int)))) (((n.as.getD k14 El.d).t).toNat) (((updF f9 (((n.as.getD k14 El.d).f).toNat) ((f9 (((n.as.getD k14 El.d).f).toNat)) - (f.getD k14 (0 : Int)))) (((n.as.getD k14 El.d).t).toNat)) + (f.getD k14 (0 : Int)))))
def flow_Check_B2 (n : Net) (f13 : (Nat → Int)) : Nat → Unit → Option (Ct (Unit) (Int)) := fun k27 _ =>
 if (f13 k27) ≠ 0 then
  if ((k27 : Nat) : Int) ≠ n.s then
   if ((k27 : Nat) : Int) ≠ n.t then
    some (.ret 8)
   else
    some (.go ())
  else
   some (.go ())
 else
  some (.go ())
def flow_Check_F (n : Net) (f : (List Int)) : Option (Int) :=
 (graph_CheckNet_F n).bind fun r2 =>
 if r2 ≠ 0 then
  some r2
 else
  if ((f.length : Nat) : Int) ≠ ((n.as.length : Nat) : Int) then
   some 3
  else
   (forC (flow_Check_B1 n f) f.length 0 (fun _ => (0 : Int) : Nat → Int)).bind fun q => match q with
   | .go f13 =>
    (forC (flow_Check_B2 n f13) 12 0 ()).bind fun q => match q with
    | .go _ =>
     some 0
    | .ret x => some x
   | .ret x => some x
def flow_Check_P (out : Int) (d : D) (H : List HL) : Prop := d = .v (.int .i64 out) ∧ H = []
def flow_Value_B1 (n : Net) (f : (List Int)) : Nat → Int → Option (Int) := fun k11 x6 =>
 ((
  if ((n.as.getD k11 El.d).f) = n.s then
   ck (k11 < f.length) <|
   ck (InI (x6 + (f.getD k11 (0 : Int)))) <|
   some (x6 + (f.getD k11 (0 : Int)))
  else
   some x6) : Option (Int)).bind fun x14 =>
 if ((n.as.getD k11 El.d).t) = n.s then
  ck (k11 < f.length) <|
  ck (InI (x14 - (f.getD k11 (0 : Int)))) <|
  some (x14 - (f.getD k11 (0 : Int)))
 else
  some x14
def flow_Value_F (n : Net) (f : (List Int)) : Option (Int × Int) :=
 (flow_Check_F n f).bind fun r2 =>
 if r2 ≠ 0 then
  some (0, r2)
 else
  (forN (flow_Value_B1 n f) n.as.length 0 0).bind fun x10 =>
  some (x10, 0)
def flow_Value_P (out : Int × Int) (d : D) (H : List HL) : Prop := d = .tp 2 (nth [.v (.int .i64 out.1), .v (.int .i64 out.2)]) ∧ H = []
def flow_amount_B1 (left : (List Int)) (arcs : (List Int)) : Nat → Int → Option (Int) := fun k16 x11 =>
 ck (0 ≤ (arcs.getD k16 (0 : Int)) ∧ (arcs.getD k16 (0 : Int)) < ((left.length : Nat) : Int)) <|
 some (min x11 (left.getD ((arcs.getD k16 (0 : Int)).toNat) (0 : Int)))
def flow_amount_F (left : (List Int)) (arcs : (List Int)) : Option (Piece) :=
 ck (0 < arcs.length) <|
 ck (0 ≤ (arcs.getD 0 (0 : Int)) ∧ (arcs.getD 0 (0 : Int)) < ((left.length : Nat) : Int)) <|
 (slices_Clone_int_F arcs).bind fun r4 =>
 (forN (flow_amount_B1 left arcs) arcs.length 0 (left.getD ((arcs.getD 0 (0 : Int)).toNat) (0 : Int))).bind fun x15 =>
 some (⟨x15, r4⟩ : Piece)
def flow_amount_P (out : Piece) (d : D) (H : List HL) : Prop := ∃ β1 : BK, d = .ag 2 (nth [.v (.int .i64 out.amount), .own β1 1 0 out.arcs.length]) ∧ H = [.one β1 3 1 (row out.arcs)]
def flow_piece_c1_F (p0 : Arc) (c_0 : Int) : Option (Bool) :=
 some (decide (p0.f = c_0))
def flow_piece_c1_P (out : Bool) (d : D) (H : List HL) : Prop := d = .v (.bool out) ∧ H = []
def slices_IndexFunc_Arc_flow_piece_c1_B1 (p0 : (List Arc)) (c1_0 : Int) : Nat → Unit → Option (Ct (Unit) (Int)) := fun k5 _ =>
 (flow_piece_c1_F (p0.getD k5 El.d) c1_0).bind fun r7 =>
 if r7 = true then
  some (.ret ((k5 : Nat) : Int))
 else
  some (.go ())
def slices_IndexFunc_Arc_flow_piece_c1_F (p0 : (List Arc)) (c1_0 : Int) : Option (Int) :=
 (forC (slices_IndexFunc_Arc_flow_piece_c1_B1 p0 c1_0) p0.length 0 ()).bind fun q => match q with
 | .go _ =>
  some (-1)
 | .ret x => some x
def slices_IndexFunc_Arc_flow_piece_c1_P (out : Int) (d : D) (H : List HL) : Prop := d = .v (.int .i64 out) ∧ H = []
def flow_piece_B2 (n : Net) (left : (List Int)) (x5 : Int) : Int → Option (Ct (Int) (Ct (Int × (List Int) × (List (Int × Int))) (Piece × Bool))) := fun x19 =>
 ((
  ck (0 ≤ x19 ∧ x19 < ((left.length : Nat) : Int)) <|
  if (left.getD x19.toNat (0 : Int)) = 0 then
   some (.go ())
  else
   ck (0 ≤ x19 ∧ x19 < ((n.as.length : Nat) : Int)) <|
   if ((n.as.getD x19.toNat El.d).f) ≠ x5 then
    some (.go ())
   else
    some (.ret (.brk x19))) : Option (Ex (Unit) (Ct (Int) (Ct (Int × (List Int) × (List (Int × Int))) (Piece × Bool))))).bind fun q => match q with
 | .go () =>
  ck (InI (x19 + 1)) <|
  some (.go (x19 + 1))
 | .ret x => some x
def flow_piece_B1 (n : Net) (left : (List Int)) : (Int × (List Int) × (List (Int × Int))) → Option (Ct (Int × (List Int) × (List (Int × Int))) (Piece × Bool)) := fun (x5, l7, mm8) =>
 if x5 ≠ n.t then
  (slices_IndexFunc_Arc_flow_piece_c1_F n.as x5).bind fun r17 =>
  (loopC (flow_piece_B2 n left x5) 1000000 r17).bind fun q => match q with
  | .go x23 =>
   ck (l7.length + 1 ≤ 17592186044416) <|
   ck (0 ≤ x23 ∧ x23 < ((n.as.length : Nat) : Int)) <|
   if (mget mm8 ((n.as.getD x23.toNat El.d).t)).isSome = true then
    ck (0 ≤ ((mget mm8 ((n.as.getD x23.toNat El.d).t)).getD 0)) <|
    ck (((mget mm8 ((n.as.getD x23.toNat El.d).t)).getD 0).toNat ≤ (l7.length + 1)) <|
    (flow_amount_F left (subl (l7 ++ ([x23] : List Int)) (((mget mm8 ((n.as.getD x23.toNat El.d).t)).getD 0).toNat) ((l7.length + 1) - ((mget mm8 ((n.as.getD x23.toNat El.d).t)).getD 0).toNat))).bind fun r41 =>
    some (.ret (r41, true))
   else
    some (.go ((n.as.getD x23.toNat El.d).t, (l7 ++ ([x23] : List Int)), (mset mm8 ((n.as.getD x23.toNat El.d).t) (((l7.length + 1) : Nat) : Int))))
  | .ret x => some x
 else
  some (.brk (x5, l7, mm8))
def flow_piece_F (n : Net) (left : (List Int)) (at_ : Int) : Option (Piece × Bool) :=
 (loopC (flow_piece_B1 n left) 1000000 (at_, [], (mset ([] : List (Int × Int)) at_ 0))).bind fun q => match q with
 | .go (x12, l13, mm14) =>
  (flow_amount_F left l13).bind fun r46 =>
  some (r46, false)
 | .ret x => some x
def flow_piece_P (out : Piece × Bool) (d : D) (H : List HL) : Prop := ∃ β1 : BK, d = .tp 2 (nth [.ag 2 (nth [.v (.int .i64 out.1.amount), .own β1 1 0 out.1.arcs.length]), .v (.bool out.2)]) ∧ H = [.one β1 3 1 (row out.1.arcs)]
def flow_take_B1 (p : Piece) : Nat → (List Int) → Option ((List Int)) := fun k8 l3 =>
 ck (0 ≤ (p.arcs.getD k8 (0 : Int)) ∧ (p.arcs.getD k8 (0 : Int)) < ((l3.length : Nat) : Int)) <|
 ck (InI ((l3.getD ((p.arcs.getD k8 (0 : Int)).toNat) (0 : Int)) - p.amount)) <|
 some (l3.set ((p.arcs.getD k8 (0 : Int)).toNat) ((l3.getD ((p.arcs.getD k8 (0 : Int)).toNat) (0 : Int)) - p.amount))
def flow_take_F (left : (List Int)) (p : Piece) : Option ((List Int)) :=
 (forN (flow_take_B1 p) p.arcs.length 0 left).bind fun l7 =>
 some l7
def flow_take_P (out : (List Int)) (βleft : BK) (d : D) (H : List HL) : Prop := d = .tp 0 (nth []) ∧ H = [.one βleft 3 1 (row out)]
def flow_Split_B1 (n : Net) : (Int × (List Int) × (List Piece) × (List Piece)) → Option (Ct (Int × (List Int) × (List Piece) × (List Piece)) ((List Piece) × (List Piece) × Int)) := fun (x10, l11, l13, l15) =>
 if 0 < x10 then
  (flow_piece_F n l11 n.s).bind fun (r25, r27) =>
  ((
   if r27 = true then
    ck (l15.length + 1 ≤ 4398046511104) <|
    some (x10, l13, (l15 ++ ([r25] : List Piece)), r25.amount)
   else
    ck (l13.length + 1 ≤ 4398046511104) <|
    ck (InI (x10 - (min r25.amount x10))) <|
    some ((x10 - (min r25.amount x10)), (l13 ++ ([(⟨(min r25.amount x10), r25.arcs⟩ : Piece)] : List Piece)), l15, (min r25.amount x10))) : Option (Int × (List Piece) × (List Piece) × Int)).bind fun (x30, l32, l34, x35) =>
  (flow_take_F l11 (⟨x35, r25.arcs⟩ : Piece)).bind fun l46 =>
  ck (l46.length = l11.length) <|
  some (.go (x30, l46, l32, l34))
 else
  some (.brk (x10, l11, l13, l15))
def flow_Split_B3 (n : Net) (f : (List Int)) (k59 : Nat) : ((List Int) × (List Piece)) → Option (Ct ((List Int) × (List Piece)) ((List Int) × (List Piece))) := fun (l61, l63) =>
 ck (k59 < l61.length) <|
 if 0 < (l61.getD k59 (0 : Int)) then
  ck (k59 < n.as.length) <|
  (flow_piece_F (⟨n.n, (-1), (-1), n.as⟩ : Net) l61 ((n.as.getD k59 El.d).f)).bind fun (r73, r75) =>
  (flow_take_F l61 r73).bind fun l80 =>
  ck (l80.length = l61.length) <|
  ck (l63.length + 1 ≤ 4398046511104) <|
  some (.go (l80, (l63 ++ ([r73] : List Piece))))
 else
  some (.brk (l61, l63))
def flow_Split_B2 (n : Net) (f : (List Int)) : Nat → ((List Int) × (List Piece)) → Option ((List Int) × (List Piece)) := fun k59 (l51, l53) =>
 (loopC (flow_Split_B3 n f k59) 1000000 (l51, l53)).bind fun q => match q with
 | .go (l67, l68) =>
  some (l67, l68)
 | .ret x => some x
def flow_Split_F (n : Net) (f : (List Int)) : Option ((List Piece) × (List Piece) × Int) :=
 (flow_Value_F n f).bind fun (r2, r3) =>
 if r3 ≠ 0 then
  some ([], [], r3)
 else
  if r2 < 0 then
   some ([], [], 9)
  else
   (slices_Clone_int_F f).bind fun r7 =>
   (loopC (flow_Split_B1 n) 1000000 (r2, r7, [], [])).bind fun q => match q with
   | .go (x19, l20, l21, l22) =>
    (forN (flow_Split_B2 n f) l20.length 0 (l20, l22)).bind fun (l57, l58) =>
    some (l21, l58, 0)
   | .ret x => some x
def flow_Split_P (out : (List Piece) × (List Piece) × Int) (d : D) (H : List HL) : Prop := ∃ β1 β2 : BK, d = .tp 3 (nth [.own β1 2 0 out.1.length, .own β2 2 0 out.2.1.length, .v (.int .i64 out.2.2)]) ∧ H = [.one β1 115 2 (row out.1), .one β2 115 2 (row out.2.1)]
def most_way_B1 : Nat → (Nat → Int) → Option ((Nat → Int)) := fun k9 f4 =>
 some (updF f4 k9 (-1))
def most_way_B3 (n : Net) (f : (List Int)) (l17 : (List Int)) : Nat → ((Nat → Step) × (Nat → Int) × (List Int)) → Option ((Nat → Step) × (Nat → Int) × (List Int)) := fun k41 (f31, f32, l34) =>
 ((
  if ((n.as.getD k41 El.d).f) = (l17.getD 0 (0 : Int)) then
   ck (k41 < f.length) <|
   if (f.getD k41 (0 : Int)) < ((n.as.getD k41 El.d).c) then
    ck (0 ≤ (n.as.getD k41 El.d).t ∧ (n.as.getD k41 El.d).t < 12) <|
    if (f32 (((n.as.getD k41 El.d).t).toNat)) < 0 then
     ck (l34.length + 1 ≤ 17592186044416) <|
     some ((updF f31 (((n.as.getD k41 El.d).t).toNat) (⟨((k41 : Nat) : Int), false⟩ : Step)), (updF f32 (((n.as.getD k41 El.d).t).toNat) (l17.getD 0 (0 : Int))), (l34 ++ ([(n.as.getD k41 El.d).t] : List Int)))
    else
     some (f31, f32, l34)
   else
    some (f31, f32, l34)
  else
   some (f31, f32, l34)) : Option ((Nat → Step) × (Nat → Int) × (List Int))).bind fun (f44, f45, l47) =>
 if ((n.as.getD k41 El.d).t) = (l17.getD 0 (0 : Int)) then
  ck (k41 < f.length) <|
  if 0 < (f.getD k41 (0 : Int)) then
   ck (0 ≤ (n.as.getD k41 El.d).f ∧ (n.as.getD k41 El.d).f < 12) <|
   if (f45 (((n.as.getD k41 El.d).f).toNat)) < 0 then
    ck (l47.length + 1 ≤ 17592186044416) <|
    some ((updF f44 (((n.as.getD k41 El.d).f).toNat) (⟨((k41 : Nat) : Int), true⟩ : Step)), (updF f45 (((n.as.getD k41 El.d).f).toNat) (l17.getD 0 (0 : Int))), (l47 ++ ([(n.as.getD k41 El.d).f] : List Int)))
   else
    some (f44, f45, l47)
  else
   some (f44, f45, l47)
 else
  some (f44, f45, l47)
def most_way_B2 (n : Net) (f : (List Int)) : ((Nat → Step) × (Nat → Int) × (List Int)) → Option (Ct ((Nat → Step) × (Nat → Int) × (List Int)) ((List Step) × Int)) := fun (f14, f15, l17) =>
 if 0 < ((l17.length : Nat) : Int) then
  ck (0 ≤ n.t ∧ n.t < 12) <|
  if (f15 n.t.toNat) < 0 then
   ck (0 < l17.length) <|
   (forN (most_way_B3 n f l17) n.as.length 0 (f14, f15, l17)).bind fun (f38, f39, l40) =>
   ck (1 ≤ l40.length) <|
   some (.go (f38, f39, (subl l40 1 (l40.length - 1))))
  else
   some (.brk (f14, f15, l17))
 else
  some (.brk (f14, f15, l17))
def most_way_B4 (n : Net) (f : (List Int)) (f21 : (Nat → Step)) (f22 : (Nat → Int)) : ((List Step) × Int × Int) → Option (Ct ((List Step) × Int × Int) ((List Step) × Int)) := fun (l73, x74, x75) =>
 if x75 ≠ n.s then
  ck (0 ≤ x75 ∧ x75 < 12) <|
  ck (l73.length + 1 ≤ 8796093022208) <|
  if (f21 x75.toNat).back = true then
   ck (0 ≤ (f21 x75.toNat).arc ∧ (f21 x75.toNat).arc < ((f.length : Nat) : Int)) <|
   some (.go ((l73 ++ ([(f21 x75.toNat)] : List Step)), (min x74 (f.getD (((f21 x75.toNat).arc).toNat) (0 : Int))), (f22 x75.toNat)))
  else
   ck (0 ≤ (f21 x75.toNat).arc ∧ (f21 x75.toNat).arc < ((n.as.length : Nat) : Int)) <|
   ck (0 ≤ (f21 x75.toNat).arc ∧ (f21 x75.toNat).arc < ((f.length : Nat) : Int)) <|
   ck (InI (((n.as.getD (((f21 x75.toNat).arc).toNat) El.d).c) - (f.getD (((f21 x75.toNat).arc).toNat) (0 : Int)))) <|
   some (.go ((l73 ++ ([(f21 x75.toNat)] : List Step)), (min x74 (((n.as.getD (((f21 x75.toNat).arc).toNat) El.d).c) - (f.getD (((f21 x75.toNat).arc).toNat) (0 : Int)))), (f22 x75.toNat)))
 else
  some (.brk (l73, x74, x75))
def most_way_F (n : Net) (f : (List Int)) : Option ((List Step) × Int) :=
 (forN (most_way_B1) 12 0 (fun _ => (0 : Int) : Nat → Int)).bind fun f8 =>
 ck (0 ≤ n.s ∧ n.s < 12) <|
 (loopC (most_way_B2 n f) 1000000 ((fun _ => El.d : Nat → Step), (updF f8 n.s.toNat n.s), ([n.s] : List Int))).bind fun q => match q with
 | .go (f21, f22, l23) =>
  ck (0 ≤ n.t ∧ n.t < 12) <|
  if (f22 n.t.toNat) < 0 then
   some ([], 0)
  else
   (loopC (most_way_B4 n f f21 f22) 1000000 ([], 10000, n.t)).bind fun q => match q with
   | .go (l79, x80, x81) =>
    some (l79, x80)
   | .ret x => some x
 | .ret x => some x
def most_way_P (out : (List Step) × Int) (d : D) (H : List HL) : Prop := ∃ β1 : BK, d = .tp 2 (nth [.own β1 2 0 out.1.length, .v (.int .i64 out.2)]) ∧ H = [.one β1 138 2 (row out.1)]
def most_More_B2 (r17 : (List Step)) (r19 : Int) : Nat → (List Int) → Option ((List Int)) := fun k28 l23 =>
 if (r17.getD k28 El.d).back = true then
  ck (0 ≤ (r17.getD k28 El.d).arc ∧ (r17.getD k28 El.d).arc < ((l23.length : Nat) : Int)) <|
  ck (InI ((l23.getD (((r17.getD k28 El.d).arc).toNat) (0 : Int)) - r19)) <|
  some (l23.set (((r17.getD k28 El.d).arc).toNat) ((l23.getD (((r17.getD k28 El.d).arc).toNat) (0 : Int)) - r19))
 else
  ck (0 ≤ (r17.getD k28 El.d).arc ∧ (r17.getD k28 El.d).arc < ((l23.length : Nat) : Int)) <|
  ck (InI ((l23.getD (((r17.getD k28 El.d).arc).toNat) (0 : Int)) + r19)) <|
  some (l23.set (((r17.getD k28 El.d).arc).toNat) ((l23.getD (((r17.getD k28 El.d).arc).toNat) (0 : Int)) + r19))
def most_More_B1 (n : Net) : (Int × (List Int)) → Option (Ct (Int × (List Int)) ((List Int) × Int × Int)) := fun (x9, l10) =>
 (most_way_F n l10).bind fun (r17, r19) =>
 if r19 = 0 then
  some (.ret (l10, x9, 0))
 else
  (forN (most_More_B2 r17 r19) r17.length 0 l10).bind fun l27 =>
  ck (InI (x9 + r19)) <|
  some (.go ((x9 + r19), l27))
def most_More_F (n : Net) (f : (List Int)) : Option ((List Int) × Int × Int) :=
 (flow_Value_F n f).bind fun (r2, r3) =>
 if r3 ≠ 0 then
  some ([], 0, r3)
 else
  ck (0 + f.length ≤ 17592186044416) <|
  (loopC (most_More_B1 n) 1000000 (r2, (([] : List Int) ++ f))).bind fun q => match q with
  | .go (x14, l15) =>
   none
  | .ret x => some x
def most_More_P (out : (List Int) × Int × Int) (d : D) (H : List HL) : Prop := ∃ β1 : BK, d = .tp 3 (nth [.own β1 1 0 out.1.length, .v (.int .i64 out.2.1), .v (.int .i64 out.2.2)]) ∧ H = [.one β1 3 1 (row out.1)]
def most_Of_F (n : Net) : Option ((List Int) × Int × Int) :=
 (graph_CheckNet_F n).bind fun r2 =>
 if r2 ≠ 0 then
  some ([], 0, r2)
 else
  ck (0 ≤ ((n.as.length : Nat) : Int) ∧ ((n.as.length : Nat) : Int) ≤ 10000000000) <|
  (most_More_F n (List.replicate (((n.as.length : Nat) : Int).toNat) (0 : Int))).bind fun (r7, r9, r10) =>
  some (r7, r9, r10)
def most_Of_P (out : (List Int) × Int × Int) (d : D) (H : List HL) : Prop := ∃ β1 : BK, d = .tp 3 (nth [.own β1 1 0 out.1.length, .v (.int .i64 out.2.1), .v (.int .i64 out.2.2)]) ∧ H = [.one β1 3 1 (row out.1)]
def cut_spread_B2 (n : Net) (f : (List Int)) (turned : Bool) : Nat → Int → Option (Int) := fun k17 x12 =>
 ((
  if turned = true then
   some ((n.as.getD k17 El.d).t, (n.as.getD k17 El.d).f)
  else
   some ((n.as.getD k17 El.d).f, (n.as.getD k17 El.d).t)) : Option (Int × Int)).bind fun (x20, x21) =>
 ((
  ck (k17 < f.length) <|
  if (f.getD k17 (0 : Int)) < ((n.as.getD k17 El.d).c) then
   ck (0 ≤ x20) <|
   if (bitsOf .and .u16 (Int.fdiv x12 (2 ^ min x20.toNat 16)) 1) = 1 then
    ck (0 ≤ x21) <|
    some (bitsOf .or .u16 x12 (IntKind.u16.wrap (1 * 2 ^ min x21.toNat 16)))
   else
    some x12
  else
   some x12) : Option (Int)).bind fun x25 =>
 ck (k17 < f.length) <|
 if 0 < (f.getD k17 (0 : Int)) then
  ck (0 ≤ x21) <|
  if (bitsOf .and .u16 (Int.fdiv x25 (2 ^ min x21.toNat 16)) 1) = 1 then
   ck (0 ≤ x20) <|
   some (bitsOf .or .u16 x25 (IntKind.u16.wrap (1 * 2 ^ min x20.toNat 16)))
  else
   some x25
 else
  some x25
def cut_spread_B1 (n : Net) (f : (List Int)) (turned : Bool) : Nat → Int → Option (Int) := fun k9 x4 =>
 (forN (cut_spread_B2 n f turned) n.as.length 0 x4).bind fun x16 =>
 some x16
def cut_spread_F (n : Net) (f : (List Int)) (at_ : Int) (turned : Bool) : Option (Int) :=
 ck (0 ≤ at_) <|
 ck (InI n.n) <|
 (forN (cut_spread_B1 n f turned) n.n.toNat 0 (IntKind.u16.wrap (1 * 2 ^ min at_.toNat 16))).bind fun x8 =>
 some x8
def cut_spread_P (out : Int) (d : D) (H : List HL) : Prop := d = .v (.int .u16 out) ∧ H = []
def cut_Least_F (n : Net) : Option (Int × Int × Int) :=
 (most_Of_F n).bind fun (r2, r4, r5) =>
 if r5 ≠ 0 then
  some (0, 0, r5)
 else
  (cut_spread_F n r2 n.s false).bind fun r8 =>
  some (r8, r4, 0)
def cut_Least_P (out : Int × Int × Int) (d : D) (H : List HL) : Prop := d = .tp 3 (nth [.v (.int .u16 out.1), .v (.int .i64 out.2.1), .v (.int .i64 out.2.2)]) ∧ H = []
def repair_Check_F (n : Net) (f : (List Int)) : Option (Int) :=
 (flow_Value_F n f).bind fun (r2, r3) =>
 if r3 ≠ 0 then
  some r3
 else
  (cut_Least_F n).bind fun (r6, r7, r8) =>
  if r2 ≠ r7 then
   some 9
  else
   some 0
def repair_Check_P (out : Int) (d : D) (H : List HL) : Prop := d = .v (.int .i64 out) ∧ H = []
def repair_on_F (n : Net) (f : (List Int)) : Option (Net × (List Int) × Int × Int) :=
 (slices_Clone_Arc_F n.as).bind fun r3 =>
 (most_More_F (⟨n.n, n.s, n.t, r3⟩ : Net) f).bind fun (r6, r8, r9) =>
 some ((⟨n.n, n.s, n.t, r3⟩ : Net), r6, r8, r9)
def repair_on_P (out : Net × (List Int) × Int × Int) (d : D) (H : List HL) : Prop := ∃ β1 β2 : BK, d = .tp 4 (nth [.ag 4 (nth [.v (.int .i64 out.1.n), .v (.int .i64 out.1.s), .v (.int .i64 out.1.t), .own β1 3 0 out.1.as.length]), .own β2 1 0 out.2.1.length, .v (.int .i64 out.2.2.1), .v (.int .i64 out.2.2.2)]) ∧ H = [.one β1 57 3 (row out.1.as), .one β2 3 1 (row out.2.1)]
def repair_Add_F (n : Net) (f : (List Int)) (a : Arc) : Option (Net × (List Int) × Int × Int) :=
 (repair_Check_F n f).bind fun r4 =>
 if r4 ≠ 0 then
  some ((⟨0, 0, 0, []⟩ : Net), [], 0, r4)
 else
  (slices_Clone_Arc_F n.as).bind fun r7 =>
  ck (r7.length + 1 ≤ 5864062014805) <|
  (graph_CheckNet_F (⟨n.n, n.s, n.t, (r7 ++ ([a] : List Arc))⟩ : Net)).bind fun r21 =>
  if r21 ≠ 0 then
   some ((⟨0, 0, 0, []⟩ : Net), [], 0, r21)
  else
   (slices_Clone_int_F f).bind fun r24 =>
   ck (r24.length + 1 ≤ 17592186044416) <|
   (repair_on_F (⟨n.n, n.s, n.t, (r7 ++ ([a] : List Arc))⟩ : Net) (r24 ++ ([0] : List Int))).bind fun (r30, r32, r34, r35) =>
   some (r30, r32, r34, r35)
def repair_Add_P (out : Net × (List Int) × Int × Int) (d : D) (H : List HL) : Prop := ∃ β1 β2 : BK, d = .tp 4 (nth [.ag 4 (nth [.v (.int .i64 out.1.n), .v (.int .i64 out.1.s), .v (.int .i64 out.1.t), .own β1 3 0 out.1.as.length]), .own β2 1 0 out.2.1.length, .v (.int .i64 out.2.2.1), .v (.int .i64 out.2.2.2)]) ∧ H = [.one β1 57 3 (row out.1.as), .one β2 3 1 (row out.2.1)]
def repair_Add_PF (out : Net × (List Int) × Int × Int) (d : D) (H : List HL) : Prop := d = .tp 4 (nth [.ag 4 (nth [.v (.int .i64 out.1.n), .v (.int .i64 out.1.s), .v (.int .i64 out.1.t), slD out.1.as]), slD out.2.1, .v (.int .i64 out.2.2.1), .v (.int .i64 out.2.2.2)]) ∧ H = []
def repair_Cap_B2 (k : Int) (takes : Int) (r21 : (List Piece)) (k30 : Nat) (l25 : (List Int)) : Nat → (List Int) → Option ((List Int)) := fun k44 l39 =>
 ck (0 ≤ (((r21.getD k30 El.d).arcs).getD k44 (0 : Int)) ∧ (((r21.getD k30 El.d).arcs).getD k44 (0 : Int)) < ((l39.length : Nat) : Int)) <|
 ck (InI ((l39.getD ((((r21.getD k30 El.d).arcs).getD k44 (0 : Int)).toNat) (0 : Int)) - (max 0 (min ((r21.getD k30 El.d).amount) ((l25.getD k.toNat (0 : Int)) - takes))))) <|
 some (l39.set ((((r21.getD k30 El.d).arcs).getD k44 (0 : Int)).toNat) ((l39.getD ((((r21.getD k30 El.d).arcs).getD k44 (0 : Int)).toNat) (0 : Int)) - (max 0 (min ((r21.getD k30 El.d).amount) ((l25.getD k.toNat (0 : Int)) - takes)))))
def repair_Cap_B1 (k : Int) (takes : Int) (r21 : (List Piece)) : Nat → (List Int) → Option ((List Int)) := fun k30 l25 =>
 (slices_Contains_int_F ((r21.getD k30 El.d).arcs) k).bind fun r33 =>
 if (!r33) = true then
  some l25
 else
  ck (0 ≤ k ∧ k < ((l25.length : Nat) : Int)) <|
  ck (InI ((l25.getD k.toNat (0 : Int)) - takes)) <|
  (forN (repair_Cap_B2 k takes r21 k30 l25) (((r21.getD k30 El.d).arcs).length) 0 l25).bind fun l43 =>
  some l43
def repair_Cap_F (n : Net) (f : (List Int)) (k : Int) (takes : Int) : Option (Net × (List Int) × Int × Int) :=
 (repair_Check_F n f).bind fun r3 =>
 if r3 ≠ 0 then
  some ((⟨0, 0, 0, []⟩ : Net), [], 0, r3)
 else
  if k < 0 then
   some ((⟨0, 0, 0, []⟩ : Net), [], 0, 5)
  else
   if ((n.as.length : Nat) : Int) ≤ k then
    some ((⟨0, 0, 0, []⟩ : Net), [], 0, 5)
   else
    if takes < 0 then
     some ((⟨0, 0, 0, []⟩ : Net), [], 0, 1)
    else
     if 10000 < takes then
      some ((⟨0, 0, 0, []⟩ : Net), [], 0, 1)
     else
      (flow_Split_F n f).bind fun (r11, r13, r15) =>
      (slices_Clone_int_F f).bind fun r17 =>
      (slices_Concat_Piece_F ([r13, r11] : List (List Piece))).bind fun r21 =>
      (forN (repair_Cap_B1 k takes r21) r21.length 0 r17).bind fun l29 =>
      (slices_Clone_Arc_F n.as).bind fun r50 =>
      ck (0 ≤ k ∧ k < ((r50.length : Nat) : Int)) <|
      (repair_on_F (⟨n.n, n.s, n.t, (r50.set k.toNat (⟨(r50.getD k.toNat El.d).f, (r50.getD k.toNat El.d).t, takes⟩ : Arc))⟩ : Net) l29).bind fun (r54, r56, r58, r59) =>
      some (r54, r56, r58, r59)
def repair_Cap_P (out : Net × (List Int) × Int × Int) (d : D) (H : List HL) : Prop := ∃ β1 β2 : BK, d = .tp 4 (nth [.ag 4 (nth [.v (.int .i64 out.1.n), .v (.int .i64 out.1.s), .v (.int .i64 out.1.t), .own β1 3 0 out.1.as.length]), .own β2 1 0 out.2.1.length, .v (.int .i64 out.2.2.1), .v (.int .i64 out.2.2.2)]) ∧ H = [.one β1 57 3 (row out.1.as), .one β2 3 1 (row out.2.1)]
def repair_Cap_PF (out : Net × (List Int) × Int × Int) (d : D) (H : List HL) : Prop := d = .tp 4 (nth [.ag 4 (nth [.v (.int .i64 out.1.n), .v (.int .i64 out.1.s), .v (.int .i64 out.1.t), slD out.1.as]), slD out.2.1, .v (.int .i64 out.2.2.1), .v (.int .i64 out.2.2.2)]) ∧ H = []
def repair_Drop_F (n : Net) (f : (List Int)) (k : Int) : Option (Net × (List Int) × Int × Int) :=
 (repair_Cap_F n f k 0).bind fun (r3, r5, r7, r8) =>
 if r8 ≠ 0 then
  some ((⟨0, 0, 0, []⟩ : Net), [], 0, r8)
 else
  ck (InI (k + 1)) <|
  (slices_Delete_Arc_F r3.as k (k + 1)).bind fun r13 =>
  (slices_Delete_int_F r5 k (k + 1)).bind fun r16 =>
  (repair_on_F (⟨r3.n, r3.s, r3.t, r13⟩ : Net) r16).bind fun (r19, r21, r23, r24) =>
  some (r19, r21, r23, r24)
def repair_Drop_P (out : Net × (List Int) × Int × Int) (d : D) (H : List HL) : Prop := ∃ β1 β2 : BK, d = .tp 4 (nth [.ag 4 (nth [.v (.int .i64 out.1.n), .v (.int .i64 out.1.s), .v (.int .i64 out.1.t), .own β1 3 0 out.1.as.length]), .own β2 1 0 out.2.1.length, .v (.int .i64 out.2.2.1), .v (.int .i64 out.2.2.2)]) ∧ H = [.one β1 57 3 (row out.1.as), .one β2 3 1 (row out.2.1)]
def repair_Drop_PF (out : Net × (List Int) × Int × Int) (d : D) (H : List HL) : Prop := d = .tp 4 (nth [.ag 4 (nth [.v (.int .i64 out.1.n), .v (.int .i64 out.1.s), .v (.int .i64 out.1.t), slD out.1.as]), slD out.2.1, .v (.int .i64 out.2.2.1), .v (.int .i64 out.2.2.2)]) ∧ H = []
def repair_Ends_B2 (r12 : (List Piece)) (k25 : Nat) : Nat → (List Int) → Option ((List Int)) := fun k34 l29 =>
 ck (0 ≤ (((r12.getD k25 El.d).arcs).getD k34 (0 : Int)) ∧ (((r12.getD k25 El.d).arcs).getD k34 (0 : Int)) < ((l29.length : Nat) : Int)) <|
 ck (InI ((l29.getD ((((r12.getD k25 El.d).arcs).getD k34 (0 : Int)).toNat) (0 : Int)) + ((r12.getD k25 El.d).amount))) <|
 some (l29.set ((((r12.getD k25 El.d).arcs).getD k34 (0 : Int)).toNat) ((l29.getD ((((r12.getD k25 El.d).arcs).getD k34 (0 : Int)).toNat) (0 : Int)) + ((r12.getD k25 El.d).amount)))
def repair_Ends_B1 (r12 : (List Piece)) : Nat → (List Int) → Option ((List Int)) := fun k25 l20 =>
 (forN (repair_Ends_B2 r12 k25) (((r12.getD k25 El.d).arcs).length) 0 l20).bind fun l33 =>
 some l33
def repair_Ends_F (n : Net) (f : (List Int)) (s : Int) (t : Int) : Option (Net × (List Int) × Int × Int) :=
 (repair_Check_F n f).bind fun r3 =>
 if r3 ≠ 0 then
  some ((⟨0, 0, 0, []⟩ : Net), [], 0, r3)
 else
  (graph_CheckNet_F (⟨n.n, s, t, n.as⟩ : Net)).bind fun r7 =>
  if r7 ≠ 0 then
   some ((⟨0, 0, 0, []⟩ : Net), [], 0, r7)
  else
   (flow_Split_F n f).bind fun (r10, r12, r14) =>
   ck (0 ≤ ((f.length : Nat) : Int) ∧ ((f.length : Nat) : Int) ≤ 10000000000) <|
   (forN (repair_Ends_B1 r12) r12.length 0 (List.replicate (((f.length : Nat) : Int).toNat) (0 : Int))).bind fun l24 =>
   (repair_on_F (⟨n.n, s, t, n.as⟩ : Net) l24).bind fun (r40, r42, r44, r45) =>
   some (r40, r42, r44, r45)
def repair_Ends_P (out : Net × (List Int) × Int × Int) (d : D) (H : List HL) : Prop := ∃ β1 β2 : BK, d = .tp 4 (nth [.ag 4 (nth [.v (.int .i64 out.1.n), .v (.int .i64 out.1.s), .v (.int .i64 out.1.t), .own β1 3 0 out.1.as.length]), .own β2 1 0 out.2.1.length, .v (.int .i64 out.2.2.1), .v (.int .i64 out.2.2.2)]) ∧ H = [.one β1 57 3 (row out.1.as), .one β2 3 1 (row out.2.1)]
def repair_Ends_PF (out : Net × (List Int) × Int × Int) (d : D) (H : List HL) : Prop := d = .tp 4 (nth [.ag 4 (nth [.v (.int .i64 out.1.n), .v (.int .i64 out.1.s), .v (.int .i64 out.1.t), slD out.1.as]), slD out.2.1, .v (.int .i64 out.2.2.1), .v (.int .i64 out.2.2.2)]) ∧ H = []
def store_New_F : Option (Store) :=
 some (⟨(⟨(⟨2, 0, 1, ([] : List Arc)⟩ : Net), ([] : List Int)⟩ : StoreState), ([] : List StoreState), ([] : List ByteArray), ([] : List StoreState)⟩ : Store)
def store_New_P (out : Store) (d : D) (H : List HL) : Prop := ∃ β1 β2 β3 β4 : BK, d = .ptr β1 8 0 0 ∧ H = [.one β1 90 8 (st1 (nth [.v (.int .i64 out.now.net.n), .v (.int .i64 out.now.net.s), .v (.int .i64 out.now.net.t), slD out.now.net.as, slD out.now.flow, .own β2 5 0 out.old.length, .own β3 1 0 out.names.length, .own β4 5 0 out.saved.length])), .one β2 86 5 (row out.old), .one β3 9 1 (row out.names), .one β4 86 5 (row out.saved)]
def store_set_F (s : Store) (n : Net) (f : (List Int)) (e_ : Int) : Option (Int × Int × Store) :=
 if e_ ≠ 0 then
  some (0, e_, s)
 else
  ck (s.old.length + 1 ≤ 1954687338268) <|
  ((
   if 20 < (((s.old.length + 1) : Nat) : Int) then
    ck (1 ≤ (s.old.length + 1)) <|
    ck (1 + ((s.old.length + 1) - 1) ≤ (s.old ++ ([s.now] : List StoreState)).length) <|
    some (⟨s.now, (subl (s.old ++ ([s.now] : List StoreState)) 1 ((s.old.length + 1) - 1)), s.names, s.saved⟩ : Store)
   else
    some (⟨s.now, (s.old ++ ([s.now] : List StoreState)), s.names, s.saved⟩ : Store)) : Option (Store)).bind fun z6 =>
  some (0, 0, (⟨(⟨n, f⟩ : StoreState), z6.old, z6.names, z6.saved⟩ : Store))
def store_set_P (out : Int × Int × Store) (βs : BK) (βs_1 : BK) (βs_2 : BK) (βs_3 : BK) (d : D) (H : List HL) : Prop := ∃ βx1 βx2 βx3 : BK, d = .tp 2 (nth [.v (.int .i64 out.1), .v (.int .i64 out.2.1)]) ∧ H = [.one βs 90 8 (st1 (nth [.v (.int .i64 out.2.2.now.net.n), .v (.int .i64 out.2.2.now.net.s), .v (.int .i64 out.2.2.now.net.t), slD out.2.2.now.net.as, slD out.2.2.now.flow, .own βx1 5 0 out.2.2.old.length, .own βx2 1 0 out.2.2.names.length, .own βx3 5 0 out.2.2.saved.length])), .one βx1 86 5 (row out.2.2.old), .one βx2 9 1 (row out.2.2.names), .one βx3 86 5 (row out.2.2.saved)]
def store_undo_F (s : Store) : Option (Int × Int × Store) :=
 if ((s.old.length : Nat) : Int) = 0 then
  some (0, 5, s)
 else
  ck (InI (((s.old.length : Nat) : Int) - 1)) <|
  ck (0 ≤ (((s.old.length : Nat) : Int) - 1) ∧ (((s.old.length : Nat) : Int) - 1) < ((s.old.length : Nat) : Int)) <|
  ck (0 ≤ (((s.old.length : Nat) : Int) - 1)) <|
  ck ((((s.old.length : Nat) : Int) - 1).toNat ≤ s.old.length) <|
  ck (0 + ((((s.old.length : Nat) : Int) - 1).toNat) ≤ s.old.length) <|
  some (0, 0, (⟨(⟨((s.old.getD ((((s.old.length : Nat) : Int) - 1).toNat) El.d).net), (s.old.getD ((((s.old.length : Nat) : Int) - 1).toNat) El.d).flow⟩ : StoreState), (subl s.old 0 ((((s.old.length : Nat) : Int) - 1).toNat)), s.names, s.saved⟩ : Store))
def store_undo_P (out : Int × Int × Store) (βs : BK) (βs_1 : BK) (βs_2 : BK) (βs_3 : BK) (d : D) (H : List HL) : Prop := ∃ βx1 βx2 βx3 : BK, d = .tp 2 (nth [.v (.int .i64 out.1), .v (.int .i64 out.2.1)]) ∧ H = [.one βs 90 8 (st1 (nth [.v (.int .i64 out.2.2.now.net.n), .v (.int .i64 out.2.2.now.net.s), .v (.int .i64 out.2.2.now.net.t), slD out.2.2.now.net.as, slD out.2.2.now.flow, .own βx1 5 0 out.2.2.old.length, .own βx2 1 0 out.2.2.names.length, .own βx3 5 0 out.2.2.saved.length])), .one βx1 86 5 (row out.2.2.old), .one βx2 9 1 (row out.2.2.names), .one βx3 86 5 (row out.2.2.saved)]
def store_name_B1 (text : ByteArray) : Nat → Unit → Option (Ct (Unit) (Int)) := fun k8 _ =>
 if (((bytesL text).getD k8 El.d).v) < 97 then
  some (.ret 3)
 else
  if 122 < (((bytesL text).getD k8 El.d).v) then
   some (.ret 3)
  else
   some (.go ())
def store_name_F (text : ByteArray) : Option (Int) :=
 if ((text.size : Nat) : Int) < 1 then
  some 3
 else
  if 8 < ((text.size : Nat) : Int) then
   some 3
  else
   ck (text.size ≤ 1000) <|
   (forC (store_name_B1 text) ((bytesL text).length) 0 ()).bind fun q => match q with
   | .go _ =>
    some 0
   | .ret x => some x
def store_name_P (out : Int) (d : D) (H : List HL) : Prop := d = .v (.int .i64 out) ∧ H = []
def store_save_F (s : Store) (text : ByteArray) : Option (Int × Int × Store) :=
 (store_name_F text).bind fun r1 =>
 if r1 ≠ 0 then
  some (0, r1, s)
 else
  (slices_Index_string_F s.names text).bind fun r4 =>
  if 0 ≤ r4 then
   ck (0 ≤ r4 ∧ r4 < ((s.saved.length : Nat) : Int)) <|
   some (0, 0, (⟨s.now, s.old, s.names, (s.saved.set r4.toNat s.now)⟩ : Store))
  else
   if ((s.names.length : Nat) : Int) = 4 then
    some (0, 11, s)
   else
    ck (s.names.length + 1 ≤ 8796093022208) <|
    ck (s.saved.length + 1 ≤ 1954687338268) <|
    some (0, 0, (⟨s.now, s.old, (s.names ++ ([text] : List ByteArray)), (s.saved ++ ([s.now] : List StoreState))⟩ : Store))
def store_save_P (out : Int × Int × Store) (βs : BK) (βs_1 : BK) (βs_2 : BK) (βs_3 : BK) (d : D) (H : List HL) : Prop := ∃ βx1 βx2 βx3 : BK, d = .tp 2 (nth [.v (.int .i64 out.1), .v (.int .i64 out.2.1)]) ∧ H = [.one βs 90 8 (st1 (nth [.v (.int .i64 out.2.2.now.net.n), .v (.int .i64 out.2.2.now.net.s), .v (.int .i64 out.2.2.now.net.t), slD out.2.2.now.net.as, slD out.2.2.now.flow, .own βx1 5 0 out.2.2.old.length, .own βx2 1 0 out.2.2.names.length, .own βx3 5 0 out.2.2.saved.length])), .one βx1 86 5 (row out.2.2.old), .one βx2 9 1 (row out.2.2.names), .one βx3 86 5 (row out.2.2.saved)]
def store_load_F (s : Store) (text : ByteArray) : Option (Int × Int × Store) :=
 (store_name_F text).bind fun r1 =>
 if r1 ≠ 0 then
  some (0, r1, s)
 else
  (slices_Index_string_F s.names text).bind fun r4 =>
  if r4 < 0 then
   some (0, 5, s)
  else
   ck (0 ≤ r4 ∧ r4 < ((s.saved.length : Nat) : Int)) <|
   (store_set_F s ((s.saved.getD r4.toNat El.d).net) ((s.saved.getD r4.toNat El.d).flow) 0).bind fun (r8, r9, x10) =>
   some (r8, r9, x10)
def store_load_P (out : Int × Int × Store) (βs : BK) (βs_1 : BK) (βs_2 : BK) (βs_3 : BK) (d : D) (H : List HL) : Prop := ∃ βx1 βx2 βx3 : BK, d = .tp 2 (nth [.v (.int .i64 out.1), .v (.int .i64 out.2.1)]) ∧ H = [.one βs 90 8 (st1 (nth [.v (.int .i64 out.2.2.now.net.n), .v (.int .i64 out.2.2.now.net.s), .v (.int .i64 out.2.2.now.net.t), slD out.2.2.now.net.as, slD out.2.2.now.flow, .own βx1 5 0 out.2.2.old.length, .own βx2 1 0 out.2.2.names.length, .own βx3 5 0 out.2.2.saved.length])), .one βx1 86 5 (row out.2.2.old), .one βx2 9 1 (row out.2.2.names), .one βx3 86 5 (row out.2.2.saved)]
def store_Do_F (s : Store) (d_ : Deed) : Option (Int × Int × Store) :=
 if d_.kind = 1 then
  (graph_CheckNet_F (⟨d_.n, d_.a, d_.b, []⟩ : Net)).bind fun r5 =>
  (store_set_F s (⟨d_.n, d_.a, d_.b, []⟩ : Net) [] r5).bind fun (r7, r8, x9) =>
  some (r7, r8, x9)
 else
  if d_.kind = 2 then
   (repair_Add_F s.now.net s.now.flow (⟨d_.a, d_.b, d_.n⟩ : Arc)).bind fun (r15, r16, r17, r18) =>
   (store_set_F s r15 r16 r18).bind fun (r21, r22, x23) =>
   some (r21, r22, x23)
  else
   if d_.kind = 3 then
    (repair_Cap_F s.now.net s.now.flow d_.a d_.n).bind fun (r29, r30, r31, r32) =>
    (store_set_F s r29 r30 r32).bind fun (r35, r36, x37) =>
    some (r35, r36, x37)
   else
    if d_.kind = 4 then
     (repair_Drop_F s.now.net s.now.flow d_.a).bind fun (r43, r44, r45, r46) =>
     (store_set_F s r43 r44 r46).bind fun (r49, r50, x51) =>
     some (r49, r50, x51)
    else
     if d_.kind = 5 then
      (repair_Ends_F s.now.net s.now.flow d_.a d_.b).bind fun (r57, r58, r59, r60) =>
      (store_set_F s r57 r58 r60).bind fun (r63, r64, x65) =>
      some (r63, r64, x65)
     else
      if d_.kind = 6 then
       (store_undo_F s).bind fun (r71, r72, x73) =>
       some (r71, r72, x73)
      else
       if d_.kind = 7 then
        (store_save_F s d_.name).bind fun (r79, r80, x81) =>
        some (r79, r80, x81)
       else
        if d_.kind = 8 then
         (store_load_F s d_.name).bind fun (r87, r88, x89) =>
         some (r87, r88, x89)
        else
         if d_.kind = 9 then
          (cut_Least_F s.now.net).bind fun (r95, r96, r97) =>
          some (r96, 0, s)
         else
          if d_.kind = 10 then
           (cut_Least_F s.now.net).bind fun (r100, r101, r102) =>
           some ((IntKind.i64.wrap r100), 0, s)
          else
           if d_.kind = 11 then
            some (((s.now.net.as.length : Nat) : Int), 0, s)
           else
            some (0, 1, s)
def store_Do_P (out : Int × Int × Store) (βs : BK) (βs_1 : BK) (βs_2 : BK) (βs_3 : BK) (d : D) (H : List HL) : Prop := ∃ βx1 βx2 βx3 : BK, d = .tp 2 (nth [.v (.int .i64 out.1), .v (.int .i64 out.2.1)]) ∧ H = [.one βs 90 8 (st1 (nth [.v (.int .i64 out.2.2.now.net.n), .v (.int .i64 out.2.2.now.net.s), .v (.int .i64 out.2.2.now.net.t), slD out.2.2.now.net.as, slD out.2.2.now.flow, .own βx1 5 0 out.2.2.old.length, .own βx2 1 0 out.2.2.names.length, .own βx3 5 0 out.2.2.saved.length])), .one βx1 86 5 (row out.2.2.old), .one βx2 9 1 (row out.2.2.names), .one βx3 86 5 (row out.2.2.saved)]
def store_Net_F (s : Store) : Option (Net × Store) :=
 (slices_Clone_Arc_F s.now.net.as).bind fun r3 =>
 some ((⟨s.now.net.n, s.now.net.s, s.now.net.t, r3⟩ : Net), s)
def store_Net_P (out : Net × Store) (βs : BK) (βs_1 : BK) (βs_2 : BK) (βs_3 : BK) (d : D) (H : List HL) : Prop := ∃ β1 βx1 βx2 βx3 : BK, d = .ag 4 (nth [.v (.int .i64 out.1.n), .v (.int .i64 out.1.s), .v (.int .i64 out.1.t), .own β1 3 0 out.1.as.length]) ∧ H = [.one β1 57 3 (row out.1.as), .one βs 90 8 (st1 (nth [.v (.int .i64 out.2.now.net.n), .v (.int .i64 out.2.now.net.s), .v (.int .i64 out.2.now.net.t), slD out.2.now.net.as, slD out.2.now.flow, .own βx1 5 0 out.2.old.length, .own βx2 1 0 out.2.names.length, .own βx3 5 0 out.2.saved.length])), .one βx1 86 5 (row out.2.old), .one βx2 9 1 (row out.2.names), .one βx3 86 5 (row out.2.saved)]
def many_do_B1 (deeds : (List Deed)) : Nat → (Store × (List Int) × (List Int)) → Option (Store × (List Int) × (List Int)) := fun k24 (z10, l15, l17) =>
 (store_Do_F z10 (deeds.getD k24 El.d)).bind fun (r27, r28, x29) =>
 ck (l15.length + 1 ≤ 17592186044416) <|
 ck (l17.length + 1 ≤ 17592186044416) <|
 some (x29, (l15 ++ ([r27] : List Int)), (l17 ++ ([r28] : List Int)))
def many_do_F (deeds : (List Deed)) : Option (Tale) :=
 (store_New_F).bind fun r2 =>
 (forN (many_do_B1 deeds) deeds.length 0 (r2, [], [])).bind fun (z21, l22, l23) =>
 (store_Net_F (⟨(⟨(⟨z21.now.net.n, z21.now.net.s, z21.now.net.t, z21.now.net.as⟩ : Net), z21.now.flow⟩ : StoreState), z21.old, z21.names, z21.saved⟩ : Store)).bind fun (r55, x57) =>
 some (⟨l22, l23, r55⟩ : Tale)
def many_do_P (out : Tale) (d : D) (H : List HL) : Prop := ∃ β1 β2 β3 : BK, d = .ag 6 (nth [.own β1 1 0 out.numbers.length, .own β2 1 0 out.errs.length, .v (.int .i64 out.net.n), .v (.int .i64 out.net.s), .v (.int .i64 out.net.t), .own β3 3 0 out.net.as.length]) ∧ H = [.one β1 3 1 (row out.numbers), .one β2 24 1 (row out.errs), .one β3 57 3 (row out.net.as)]
def many_Run_F (hands : Int) (jobs : List (List Deed)) : Option (List Tale × Int) :=
  if hands < 1 then some ([], 1) else if 8 < hands then some ([], 1) else ck (jobs.length ≤ 10000000000) <| (jobs.mapM many_do_F).bind fun outs => some (outs, 0)
def weirkeep_ManyAlike_B1 (r14 : (List Tale)) (r17 : (List Tale)) : Nat → Unit → Option (Ct (Unit) (Bool)) := fun k31 _ =>
 ck (k31 < r17.length) <|
 (slices_Equal_int_F ((r14.getD k31 El.d).numbers) ((r17.getD k31 El.d).numbers)).bind fun r34 =>
 if (!r34) = true then
  some (.ret false)
 else
  (slices_Equal_Errno_F ((r14.getD k31 El.d).errs) ((r17.getD k31 El.d).errs)).bind fun r37 =>
  if (!r37) = true then
   some (.ret false)
  else
   (weirkeep_sameNet_F ((r14.getD k31 El.d).net) ((r17.getD k31 El.d).net)).bind fun r40 =>
   if (!r40) = true then
    some (.ret false)
   else
    some (.go ())
def weirkeep_ManyAlike_F (a : Int) (b : Int) (jobs : (List (List Deed))) (k : Int) : Option (Bool) :=
 (many_Run_F 2 ([([(⟨2, 0, 1, 7, ByteArray.empty⟩ : Deed), (⟨9, 0, 0, 0, ByteArray.empty⟩ : Deed)] : List Deed)] : List (List Deed))).bind fun (r3, r4) =>
 if r4 ≠ 0 then
  some false
 else
  if ((r3.length : Nat) : Int) ≠ 1 then
   some false
  else
   ck (0 < r3.length) <|
   (slices_Equal_int_F ((r3.getD 0 El.d).numbers) ([0, 7] : List Int)).bind fun r11 =>
   if (!r11) = true then
    some false
   else
    (many_Run_F a jobs).bind fun (r14, r15) =>
    (many_Run_F b jobs).bind fun (r17, r18) =>
    if r15 ≠ 0 then
     if r15 ≠ 0 then
      some true
     else
      some (decide (r18 ≠ 0))
    else
     if r18 ≠ 0 then
      if r15 ≠ 0 then
       some true
      else
       some (decide (r18 ≠ 0))
     else
      if ((r14.length : Nat) : Int) ≠ ((jobs.length : Nat) : Int) then
       if r15 ≠ 0 then
        some true
       else
        some (decide (r18 ≠ 0))
      else
       if ((r17.length : Nat) : Int) ≠ ((jobs.length : Nat) : Int) then
        if r15 ≠ 0 then
         some true
        else
         some (decide (r18 ≠ 0))
       else
        (forC (weirkeep_ManyAlike_B1 r14 r17) r14.length 0 ()).bind fun q => match q with
        | .go _ =>
         if ((jobs.length : Nat) : Int) = 0 then
          some true
         else
          (weirref_Rest_F k ((jobs.length : Nat) : Int)).bind fun r45 =>
          ck (InI (r45 + 1)) <|
          ck (0 ≤ r45) <|
          ck (0 ≤ (r45 + 1)) <|
          ck (r45.toNat ≤ (r45 + 1).toNat) <|
          ck ((r45 + 1).toNat ≤ jobs.length) <|
          (many_Run_F a (subl jobs r45.toNat ((r45 + 1).toNat - r45.toNat))).bind fun (r52, r53) =>
          if r53 = 0 then
           if ((r52.length : Nat) : Int) = 1 then
            ck (0 < r52.length) <|
            ck (0 ≤ r45 ∧ r45 < ((r14.length : Nat) : Int)) <|
            (slices_Equal_int_F ((r52.getD 0 El.d).numbers) ((r14.getD r45.toNat El.d).numbers)).bind fun r59 =>
            if r59 = true then
             (weirkeep_sameNet_F ((r52.getD 0 El.d).net) ((r14.getD r45.toNat El.d).net)).bind fun r62 =>
             some r62
            else
             some false
           else
            some false
          else
           some false
        | .ret x => some x
def weirkeep_ManyAlike_P (out : Bool) (d : D) (H : List HL) : Prop := d = .v (.bool out) ∧ H = []
end Go.Proofs.Ytkfmphlnpmemdaa
