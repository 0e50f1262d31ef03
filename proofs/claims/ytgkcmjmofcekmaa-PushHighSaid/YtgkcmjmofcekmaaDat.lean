/- The program's structs as data, and how a value reads as one. -/
import Derived.Test.YtgkcmjmofcekmaaSxT
namespace Go.Proofs.Ytgkcmjmofcekmaa.Sx
open Go
set_option linter.unusedVariables false
set_option linter.unusedSimpArgs false

structure Arc where
  f : Int
  t : Int
  c : Int
deriving DecidableEq
structure Graph where
  n : Int
  as : List Arc
structure Net where
  n : Int
  s : Int
  t : Int
  as : List Arc
structure Piece where
  amount : Int
  arcs : List Int
structure Proof where
  value : Int
  flow : List Int
  side : Int
structure Push where
  net : Net
  flow : List Int
  height : List Int
structure Need where
  f : Int
  t : Int
  low : Int
  cap : Int
structure Step where
  arc : Int
  back : Bool
/-- what level works at -/
structure Run where
  n : Net
  f : List Int
  level : Nat → Int
/-- a store, and what is done at it -/
structure StoreState where
  net : Net
  flow : List Int
structure Store where
  now : StoreState
  old : List StoreState
  names : List ByteArray
  saved : List StoreState
structure Deed where
  kind : Int
  a : Int
  b : Int
  n : Int
  name : ByteArray
/-- what a job tells -/
structure Tale where
  numbers : List Int
  errs : List Int
  net : Net
structure T3 where
  x0 : Int
  x1 : Int
  x2 : Int
instance : El Arc := ⟨3, fun a => nth [.v (.int .i64 a.f), .v (.int .i64 a.t), .v (.int .i64 a.c)], ⟨0, 0, 0⟩⟩
instance : El T3 := ⟨3, fun a => nth [.v (.int .i64 a.x0), .v (.int .i64 a.x1), .v (.int .i64 a.x2)], ⟨0, 0, 0⟩⟩
instance : El Piece := ⟨2, fun a => nth [.v (.int .i64 a.amount), slD a.arcs], ⟨0, []⟩⟩
instance : GE Piece Int := ⟨2, fun p q => nth [.v (.int .i64 p.amount), q], fun p => p.arcs, ⟨0, []⟩⟩
instance : GEI Piece := ⟨fun p q h f => by
  match f with
  | 0 => exact inferInstanceAs (Indep (.v _))
  | 1 => exact h
  | n + 2 => exact inferInstanceAs (Indep .junk)⟩
/-- a piece, and where its row lies -/
structure PieceB where
  p : Piece
  b : BK
instance : El PieceB := ⟨2, fun x => nth [.v (.int .i64 x.p.amount), .own x.b 1 0 x.p.arcs.length], ⟨⟨0, []⟩, ⟨0, 0, 0⟩⟩⟩
def tagB (B : Nat → BK) (xs : List Piece) : List PieceB := (List.range xs.length).map fun e => ⟨xs.getD e GE.d, B e⟩
theorem tagB_len (B : Nat → BK) (xs : List Piece) : (tagB B xs).length = xs.length := by simp [tagB]
theorem tagB_getD (B : Nat → BK) {xs : List Piece} {e : Nat} (h : e < xs.length) : (tagB B xs).getD e El.d = ⟨xs.getD e GE.d, B e⟩ := by simp [tagB, List.getD_eq_getElem?_getD, h]
theorem HLe.tagB {β : BK} {t : TypeId} {B : Nat → BK} {xs : List Piece} : HLe (.one β t 2 (Sx.gridS B xs)) (.one β t 2 (row (Sx.tagB B xs))) :=
  HLe.c (by rw [gridS_len]; simp [row, Sx.tagB]) fun e he f hf => by
    have he' : e < xs.length := by simpa [row, Sx.tagB] using he
    show DLe (gsD B xs e f) (El.enc ((Sx.tagB B xs).getD e El.d) f)
    rw [tagB_getD B he']
    exact DLe.refl _
theorem HLe.untagB {β : BK} {t : TypeId} {B B' : Nat → BK} {xs ys zs : List Piece} (hz : zs = xs ++ ys) : HLe (.one β t 2 (row (Sx.tagB B xs ++ Sx.tagB B' ys))) (.one β t 2 (Sx.gridS (catB B xs.length B') zs)) := by
  subst hz
  refine HLe.c (by rw [gridS_len]; simp [row, Sx.tagB]) fun e he f hf => ?_
  have he' : e < xs.length + ys.length := by simpa [Sx.gridS] using he
  show DLe (El.enc ((Sx.tagB B xs ++ Sx.tagB B' ys).getD e El.d) f) (gsD (catB B xs.length B') (xs ++ ys) e f)
  by_cases c : e < xs.length
  · have h1 : (Sx.tagB B xs ++ Sx.tagB B' ys).getD e El.d = ⟨xs.getD e GE.d, B e⟩ := by
      rw [List.getD_eq_getElem?_getD, List.getElem?_append_left (by rw [tagB_len]; exact c), ← List.getD_eq_getElem?_getD, tagB_getD B c]
    have h2 : (xs ++ ys).getD e GE.d = xs.getD e GE.d := by rw [List.getD_eq_getElem?_getD, List.getElem?_append_left c, ← List.getD_eq_getElem?_getD]
    have h3 : catB B xs.length B' e = B e := by unfold catB; rw [if_pos c]
    unfold gsD
    rw [h1, h2, h3]
    exact DLe.refl _
  · have h1 : (Sx.tagB B xs ++ Sx.tagB B' ys).getD e El.d = ⟨ys.getD (e - xs.length) GE.d, B' (e - xs.length)⟩ := by
      rw [List.getD_eq_getElem?_getD, List.getElem?_append_right (by rw [tagB_len]; omega), tagB_len, ← List.getD_eq_getElem?_getD, tagB_getD B' (by omega)]
    have h2 : (xs ++ ys).getD e GE.d = ys.getD (e - xs.length) GE.d := by rw [List.getD_eq_getElem?_getD, List.getElem?_append_right (by omega), ← List.getD_eq_getElem?_getD]
    have h3 : catB B xs.length B' e = B' (e - xs.length) := by unfold catB; rw [if_neg c]
    unfold gsD
    rw [h1, h2, h3]
    exact DLe.refl _
instance : El Graph := ⟨2, fun g => nth [.v (.int .i64 g.n), slD g.as], ⟨0, []⟩⟩
instance : El Net := ⟨4, fun g => nth [.v (.int .i64 g.n), .v (.int .i64 g.s), .v (.int .i64 g.t), slD g.as], ⟨0, 0, 0, []⟩⟩
instance : El Need := ⟨4, fun a => nth [.v (.int .i64 a.f), .v (.int .i64 a.t), .v (.int .i64 a.low), .v (.int .i64 a.cap)], ⟨0, 0, 0, 0⟩⟩
instance : El Step := ⟨2, fun a => nth [.v (.int .i64 a.arc), .v (.bool a.back)], ⟨0, false⟩⟩
instance : El StoreState := ⟨5, fun g => nth [.v (.int .i64 g.net.n), .v (.int .i64 g.net.s), .v (.int .i64 g.net.t), slD g.net.as, slD g.flow], ⟨⟨0, 0, 0, []⟩, []⟩⟩
instance : El Deed := ⟨5, fun g => nth [.v (.int .i64 g.kind), .v (.int .i64 g.a), .v (.int .i64 g.b), .v (.int .i64 g.n), .v (.string g.name)], ⟨0, 0, 0, 0, ByteArray.empty⟩⟩
instance : El Tale := ⟨6, fun x => nth [slD x.numbers, slD x.errs, .v (.int .i64 x.net.n), .v (.int .i64 x.net.s), .v (.int .i64 x.net.t), slD x.net.as], ⟨[], [], ⟨0, 0, 0, []⟩⟩⟩
instance : IndepE Deed := ⟨fun g f => IndepL.h (l := [.v (.int .i64 g.kind), .v (.int .i64 g.a), .v (.int .i64 g.b), .v (.int .i64 g.n), .v (.string g.name)]) f⟩
instance : IndepE Arc := ⟨fun a f => IndepL.h (l := [.v (.int .i64 a.f), .v (.int .i64 a.t), .v (.int .i64 a.c)]) f⟩
instance : IndepE T3 := ⟨fun a f => IndepL.h (l := [.v (.int .i64 a.x0), .v (.int .i64 a.x1), .v (.int .i64 a.x2)]) f⟩
instance : IndepE Need := ⟨fun a f => IndepL.h (l := [.v (.int .i64 a.f), .v (.int .i64 a.t), .v (.int .i64 a.low), .v (.int .i64 a.cap)]) f⟩
instance : IndepE Step := ⟨fun a f => IndepL.h (l := [.v (.int .i64 a.arc), .v (.bool a.back)]) f⟩
def arcD (a : Arc) : Nat → D := El.enc a
def arcsD (l : List Arc) : D := slD l
def intsD (l : List Int) : D := slD l
def boolsD (l : List Bool) : D := slD l
def graphD (g : Graph) : D := .ag 2 (nth [.v (.int .i64 g.n), slD g.as])
def netD (g : Net) : D := .ag 4 (nth [.v (.int .i64 g.n), .v (.int .i64 g.s), .v (.int .i64 g.t), slD g.as])
def proofD (p : Proof) : D := .ag 3 (nth [.v (.int .i64 p.value), slD p.flow, .v (.int .u16 p.side)])
structure GIn (g : Graph) : Prop where
  n : InI g.n
  arc : ∀ a, a ∈ g.as → InI a.f ∧ InI a.t ∧ InI a.c
  len : g.as.length ≤ maxLen
theorem inI_len {k n : Nat} (h : (k : Int) < (n : Int)) (hm : n ≤ maxLen) : InI ((k : Int) + 1) := by unfold maxLen at hm; unfold InI; omega
theorem inI_cnt {k : Nat} {n : Int} (h : (k : Int) < n) (hn : InI n) : InI ((k : Int) + 1) := by unfold InI at *; omega
class ArcT (P : Program) (t : TypeId) : Prop where
  eq : ∀ (a b c a' b' c' : Int) (w : World), (Op.equalIn 10000 t (.agg #[.int .i64 a, .int .i64 b, .int .i64 c]) (.agg #[.int .i64 a', .int .i64 b', .int .i64 c'])).run P w = .ok (decide (a = a' ∧ b = b' ∧ c = c')) w
  guard : P.eqGuardType P.depth t = false
section
variable {X : Cx} {s : St} {H0 : List HL} {d : Tmp} {ty : TypeId} {pos : String} {aft : Array Edge} {x y : Operand} {xt yt : TypeId}
theorem arc_value {I : Nat → Prop} {w : World} {g : Nat → D} {v : Value} {a b c : Int} (h : Rd I w (.ag 3 g) v) (h0 : g 0 = .v (.int .i64 a)) (h1 : g 1 = .v (.int .i64 b)) (h2 : g 2 = .v (.int .i64 c)) : v = .agg #[.int .i64 a, .int .i64 b, .int .i64 c] := by
  obtain ⟨vs, rfl, hs, hc⟩ := h
  obtain ⟨u0, e0, _, r0⟩ := hc 0 (by omega)
  obtain ⟨u1, e1, _, r1⟩ := hc 1 (by omega)
  obtain ⟨u2, e2, _, r2⟩ := hc 2 (by omega)
  rw [h0] at r0; rw [h1] at r1; rw [h2] at r2
  have r0 : u0 = _ := r0
  have r1 : u1 = _ := r1
  have r2 : u2 = _ := r2
  subst r0 r1 r2
  congr 1
  refine Array.ext (by simpa using hs) fun i hi _ => ?_
  have hi3 : i < 3 := by omega
  match i, hi3 with
  | 0, _ => simpa [hi] using e0
  | 1, _ => simpa [hi] using e1
  | 2, _ => simpa [hi] using e2
theorem ps_eqlS {g g' : Nat → D} {a b c a' b' c' : Int} [ht : ArcT X.P xt] (hx : s.ev x = some (.ag 3 g)) (hy : s.ev y = some (.ag 3 g')) (h0 : g 0 = .v (.int .i64 a)) (h1 : g 1 = .v (.int .i64 b)) (h2 : g 2 = .v (.int .i64 c))
    (h0' : g' 0 = .v (.int .i64 a')) (h1' : g' 1 = .v (.int .i64 b')) (h2' : g' 2 = .v (.int .i64 c')) (hd : Nat.blt d X.nt = true) :
    PureStep X H0 ⟨some d, .binOp .eql xt x y yt, ty, pos, aft, none⟩ s (s.put d (.v (.bool (decide (a = a' ∧ b = b' ∧ c = c'))))) :=
  ps_of hd fun _ act _ hs => ⟨.bool (decide (a = a' ∧ b = b' ∧ c = c')), fun w' _ => by
    have e1 := arc_value (hs.ev hx) h0 h1 h2
    have e2 := arc_value (hs.ev hy) h0' h1' h2'
    simp only [execOp, e1, e2, Sem.run_bind, run_eqGuard_agg _ _ _ _ _ _ _ ht.guard, run_eql_struct, ht.eq, Result.andThen_ok, Sem.run_pure], rfl⟩
theorem ps_neqS {g g' : Nat → D} {a b c a' b' c' : Int} [ht : ArcT X.P xt] (hx : s.ev x = some (.ag 3 g)) (hy : s.ev y = some (.ag 3 g')) (h0 : g 0 = .v (.int .i64 a)) (h1 : g 1 = .v (.int .i64 b)) (h2 : g 2 = .v (.int .i64 c))
    (h0' : g' 0 = .v (.int .i64 a')) (h1' : g' 1 = .v (.int .i64 b')) (h2' : g' 2 = .v (.int .i64 c')) (hd : Nat.blt d X.nt = true) :
    PureStep X H0 ⟨some d, .binOp .neq xt x y yt, ty, pos, aft, none⟩ s (s.put d (.v (.bool (decide (¬ (a = a' ∧ b = b' ∧ c = c')))))) :=
  ps_of hd fun _ act _ hs => ⟨.bool (decide (¬ (a = a' ∧ b = b' ∧ c = c'))), fun w' _ => by
    have e1 := arc_value (hs.ev hx) h0 h1 h2
    have e2 := arc_value (hs.ev hy) h0' h1' h2'
    simp only [execOp, e1, e2, Sem.run_bind, run_eqGuard_agg _ _ _ _ _ _ _ ht.guard, run_neq_struct, ht.eq, Result.andThen_ok, Sem.run_pure]
    rw [decide_not], rfl⟩
end
end Go.Proofs.Ytgkcmjmofcekmaa.Sx
