import Derived.Test.YthchdnemndolbaaDoorQSxT
namespace Go.Proofs.YthchdnemndolbaaDoor.Sx
open Go
set_option linter.unusedVariables false
set_option linter.unusedSimpArgs false
structure Arc where
  f : Int
  t : Int
  c : Int
deriving DecidableEq
structure Graph where
  n : Int
  as : List Arc
structure Net where
  n : Int
  s : Int
  t : Int
  as : List Arc
structure Piece where
  amount : Int
  arcs : List Int
structure Need where
  f : Int
  t : Int
  low : Int
  cap : Int
structure Step where
  arc : Int
  back : Bool
structure StoreState where
  net : Net
  flow : List Int
structure Store where
  now : StoreState
  old : List StoreState
  names : List ByteArray
  saved : List StoreState
structure Deed where
  kind : Int
  a : Int
  b : Int
  n : Int
  name : ByteArray
structure T3 where
  x0 : Int
  x1 : Int
  x2 : Int
instance : El Arc := ⟨3, fun a => nth [.v (.int .i64 a.f), .v (.int .i64 a.t), .v (.int .i64 a.c)], ⟨0, 0, 0⟩⟩
instance : El T3 := ⟨3, fun a => nth [.v (.int .i64 a.x0), .v (.int .i64 a.x1), .v (.int .i64 a.x2)], ⟨0, 0, 0⟩⟩
instance : El Piece := ⟨2, fun a => nth [.v (.int .i64 a.amount), slD a.arcs], ⟨0, []⟩⟩
instance : GE Piece Int := ⟨2, fun p q => nth [.v (.int .i64 p.amount), q], fun p => p.arcs, ⟨0, []⟩⟩
instance : GEI Piece := ⟨fun p q h f => by
  match f with
  | 0 => exact inferInstanceAs (Indep (.v _))
  | 1 => exact h
  | n + 2 => exact inferInstanceAs (Indep .junk)⟩
structure PieceB where
  p : Piece
  b : BK
instance : El PieceB := ⟨2, fun x => nth [.v (.int .i64 x.p.amount), .own x.b 1 0 x.p.arcs.length], ⟨⟨0, []⟩, ⟨0, 0, 0⟩⟩⟩
instance : El Graph := ⟨2, fun g => nth [.v (.int .i64 g.n), slD g.as], ⟨0, []⟩⟩
instance : El Net := ⟨4, fun g => nth [.v (.int .i64 g.n), .v (.int .i64 g.s), .v (.int .i64 g.t), slD g.as], ⟨0, 0, 0, []⟩⟩
instance : El Need := ⟨4, fun a => nth [.v (.int .i64 a.f), .v (.int .i64 a.t), .v (.int .i64 a.low), .v (.int .i64 a.cap)], ⟨0, 0, 0, 0⟩⟩
instance : El Step := ⟨2, fun a => nth [.v (.int .i64 a.arc), .v (.bool a.back)], ⟨0, false⟩⟩
instance : El StoreState := ⟨5, fun g => nth [.v (.int .i64 g.net.n), .v (.int .i64 g.net.s), .v (.int .i64 g.net.t), slD g.net.as, slD g.flow], ⟨⟨0, 0, 0, []⟩, []⟩⟩
instance : El Deed := ⟨5, fun g => nth [.v (.int .i64 g.kind), .v (.int .i64 g.a), .v (.int .i64 g.b), .v (.int .i64 g.n), .v (.string g.name)], ⟨0, 0, 0, 0, ByteArray.empty⟩⟩
instance : IndepE Deed := ⟨fun g f => IndepL.h (l := [.v (.int .i64 g.kind), .v (.int .i64 g.a), .v (.int .i64 g.b), .v (.int .i64 g.n), .v (.string g.name)]) f⟩
instance : IndepE Arc := ⟨fun a f => IndepL.h (l := [.v (.int .i64 a.f), .v (.int .i64 a.t), .v (.int .i64 a.c)]) f⟩
instance : IndepE T3 := ⟨fun a f => IndepL.h (l := [.v (.int .i64 a.x0), .v (.int .i64 a.x1), .v (.int .i64 a.x2)]) f⟩
instance : IndepE Need := ⟨fun a f => IndepL.h (l := [.v (.int .i64 a.f), .v (.int .i64 a.t), .v (.int .i64 a.low), .v (.int .i64 a.cap)]) f⟩
instance : IndepE Step := ⟨fun a f => IndepL.h (l := [.v (.int .i64 a.arc), .v (.bool a.back)]) f⟩
theorem inI_len {k n : Nat} (h : (k : Int) < (n : Int)) (hm : n ≤ maxLen) : InI ((k : Int) + 1) := by unfold maxLen at hm; unfold InI; omega
theorem inI_cnt {k : Nat} {n : Int} (h : (k : Int) < n) (hn : InI n) : InI ((k : Int) + 1) := by unfold InI at *; omega
class ArcT (P : Program) (t : TypeId) : Prop where
  eq : ∀ (a b c a' b' c' : Int) (w : World), (Op.equalIn 10000 t (.agg #[.int .i64 a, .int .i64 b, .int .i64 c]) (.agg #[.int .i64 a', .int .i64 b', .int .i64 c'])).run P w = .ok (decide (a = a' ∧ b = b' ∧ c = c')) w
  guard : P.eqGuardType P.depth t = false
section
variable {X : Cx} {s : St} {H0 : List HL} {d : Tmp} {ty : TypeId} {pos : String} {aft : Array Edge} {x y : Operand} {xt yt : TypeId}
end
theorem szl : (∀ {α : Type} (xs : List α) (r len : Nat), (subl xs r len).length = min len (xs.length - r)) ∧ (∀ {α : Type} [El α] (xs : List α) (r len : Nat) (ys : List α), (cpl xs r len ys).length = xs.length) ∧ (∀ {α : Type} (xs : List α) (i : Nat) (a : α), (xs.set i a).length = xs.length) ∧ (∀ {α : Type} (xs ys : List α), (xs ++ ys).length = xs.length + ys.length) ∧ (∀ {α : Type} (a : α) (xs : List α), (a :: xs).length = xs.length + 1) ∧ (∀ {α : Type}, ([] : List α).length = 0) ∧ (∀ {α : Type} (n : Nat) (a : α), (List.replicate n a).length = n) ∧ ∀ {α : Type} [El α] (xs : List α), (row xs).len = xs.length :=
  ⟨subl_length, cpl_length, fun _ _ _ => List.length_set, fun _ _ => List.length_append, fun _ _ => List.length_cons, List.length_nil, fun _ _ => List.length_replicate, row_len⟩
theorem Qa : type_of% @GoO.pure := @GoO.pure
theorem Qb : type_of% @DLe.refl := @DLe.refl
theorem Qc : type_of% @GoC.region := @GoC.region
theorem Qd : type_of% @Take.cons := @Take.cons
theorem Qe : type_of% @GoK.code := @GoK.code
theorem Qf : type_of% @Option.some.inj := @Option.some.inj
theorem Qg : type_of% @EnvD.eq := @EnvD.eq
theorem Qh : type_of% @Nat.zero_lt_one := @Nat.zero_lt_one
theorem Qi : type_of% @ps_assign := @ps_assign
theorem Qj : type_of% @GoC.seq := @GoC.seq
theorem Qk : type_of% @Rem.p0 := @Rem.p0
theorem Ql : type_of% @ps_move := @ps_move
theorem Qm : type_of% @Take.nil := @Take.nil
theorem Qn : type_of% @TkD.cons := @TkD.cons
theorem Qo : type_of% @GoO.nil := @GoO.nil
theorem Qp : type_of% @Lend.refl := @Lend.refl
theorem Qq : type_of% @LendL.cons := @LendL.cons
theorem Qr : type_of% @HLe.refl := @HLe.refl
theorem Qs : type_of% @trivial := @trivial
theorem Qt : type_of% @ResL.cons := @ResL.cons
theorem Qu : type_of% @ps_fieldAddr := @ps_fieldAddr
theorem Qv : type_of% @ResD.tmp := @ResD.tmp
theorem Qw : type_of% @At.p0 := @At.p0
theorem Qx : type_of% @GoP.qN := @GoP.qN
theorem Qy : type_of% @EnvD.nil := @EnvD.nil
theorem Qz : type_of% @LendL.nil := @LendL.nil
theorem Ja : type_of% @GoO.guardF := @GoO.guardF
theorem Jb : type_of% @TkD.nil := @TkD.nil
theorem Jc : type_of% @GoC.condD := @GoC.condD
theorem Jd : type_of% @bind_l := @bind_l
theorem Je : type_of% @ResL.nil := @ResL.nil
theorem Jf : type_of% @ps_load := @ps_load
theorem Jg : type_of% @GoC.skip := @GoC.skip
theorem Jh : type_of% @GoC.retL := @GoC.retL
theorem Ji : type_of% @ps_extract := @ps_extract
theorem Jj : type_of% @HLe.st := @HLe.st
theorem Jk : type_of% @Rem.p1 := @Rem.p1
theorem Jl : type_of% @GoO.guardT := @GoO.guardT
theorem Jm : type_of% @EnvD.cons := @EnvD.cons
theorem Jn : type_of% @Parts.cons := @Parts.cons
theorem Jo : type_of% @GoQ.qP := @GoQ.qP
theorem Jp : type_of% @DLe.len := @DLe.len
theorem Jq : type_of% @GoO.effB := @GoO.effB
theorem Jr : type_of% @GoK.meet := @GoK.meet
theorem Js : type_of% @At.p1 := @At.p1
theorem Jt : type_of% @ite_t := @ite_t
theorem Ju : type_of% @ite_f := @ite_f
end Go.Proofs.YthchdnemndolbaaDoor.Sx
