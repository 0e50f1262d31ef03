import Derived.Test.YtkfmphlnpmemdaaQSxA
import Derived.Defers
import Derived.Laws.StructEq
set_option linter.unusedVariables false
set_option linter.unusedSimpArgs false
namespace Go.Proofs.Ytkfmphlnpmemdaa.Sx
open Go
inductive It where
  | code (c : Code)
  | blk (id : Nat)
  | again (J : St → Prop)
theorem blt_lt {m n : Nat} (h : Nat.blt m n = true) : m < n := by simpa using h
def boolOf : Value → Option Bool
  | .bool b => some b
  | _ => none
section
variable {X : Cx} {fn : Func} {R : Ending → World → Prop} {k k' : List It} {s s' : St}
def PureStep (X : Cx) (H0 : List HL) (o : Oper) (s s' : St) : Prop :=
  ∀ I a w, Sat X I s a w → ∃ v, (∀ w' : World, (∀ b, (I b ∨ fps H0 b) → w'.heap[b]? = w.heap[b]?) → (execOp a.eval o).run X.P w' = .ok (.value v) w') ∧ Sat X I s' (a.put o.dst v) w
def gslot (all : Array Oper) (j : Nat) : Option Tmp := (all[j]?).bind (·.dst)
theorem Sat.yielded {I : Nat → Prop} {a : Act} {w : World} (hs : Sat X I s a w) {all : Array Oper} {j d : Nat} {x : Value} (hj : gslot all j = some d) (hd : Nat.blt d X.nt = true) (hb : look s.env d = some (.v x)) :
    yielded all a.tmps j = boolOf x := by
  have h1 := hs.env d _ hb
  have hsz : d < a.tmps.size := by rw [hs.tsz]; exact blt_lt hd
  have h2 : a.tmps[d]? = some x := by
    have : a.tmps.getD d undef = x := h1
    rw [Array.getD_eq_getD_getElem?, Array.getElem?_eq_getElem hsz] at this
    rw [Array.getElem?_eq_getElem hsz]
    simpa using this
  unfold Go.yielded
  unfold gslot at hj
  rw [hj]
  simp only [Option.bind_some, h2]
  cases x <;> rfl
section
variable {all : Array Oper} {d : Option Tmp} {op : Op} {ty : TypeId} {pos : String} {aft : Array Edge} {os : List Oper} {j g : Nat} {want : Bool} {t : Tmp}
theorem Sat.reput {I : Nat → Prop} {a : Act} {w : World} (hs : Sat X I s a w) {x y : Value} (hb : look s.env g = some (.v x)) (e : x = y) : Sat X I (s.put g (.v y)) a w := by
  subst e
  refine ⟨hs.tsz, hs.dfr, fun i e he => ?_, hs.heap, hs.sep, hs.own, hs.imm, hs.i0, hs.same⟩
  rw [look_put] at he
  by_cases h : g = i
  · subst h
    rw [if_pos rfl] at he
    cases he
    exact hs.env g _ hb
  · rw [if_neg h] at he
    exact hs.env i e he
end
end
def InI (z : Int) : Prop := -9223372036854775808 ≤ z ∧ z ≤ 9223372036854775807
class SlT (P : Program) (t : TypeId) (e : outParam TypeId) : Prop where
  h : P.underlying t = some (.slice e)
class TI (P : Program) (t : TypeId) (size : outParam Nat) (agg : outParam Bool) : Prop where
  size : ∀ w, (sizeOf t).run P w = .ok size w
  agg : ∀ w, (isAgg t).run P w = .ok agg w
class ArT (P : Program) (t : TypeId) (n : outParam Nat) (e : outParam TypeId) : Prop where
  h : P.underlying t = some (.array n e)
class FdT (P : Program) (t : TypeId) (f : Nat) (off : outParam Nat) (size : outParam Nat) (agg : outParam Bool) : Prop where
  h : ∃ fs fd, P.underlying t = some (.struct fs) ∧ fs[f]? = some fd ∧ fd.offset = off ∧ (∀ w, (sizeOf fd.type).run P w = .ok size w) ∧ (∀ w, (isAgg fd.type).run P w = .ok agg w) ∧ size ≠ 0
theorem TI.of {P : Program} {t : TypeId} {size : Nat} {agg : Bool} {d : TypeDesc} (h1 : (P.info? t).map (·.size) = some size) (h2 : P.underlying t = some d)
    (h3 : (match d with | .struct _ | .array _ _ => true | _ => false) = agg) : TI P t size agg where
  size := fun w => by
    cases h : P.info? t with
    | none => simp [h] at h1
    | some i => simp [h] at h1; simp [sizeOf, typeInfo, h, h1]
  agg := fun w => by
    unfold isAgg
    rw [Sem.run_bind, run_underlying h2 w]
    cases d <;> simp_all
theorem FdT.of {P : Program} {t : TypeId} {f off size : Nat} {agg : Bool} {fs : Array Field} {fd : Field} (h1 : P.underlying t = some (.struct fs)) (h2 : fs[f]? = some fd) (h3 : fd.offset = off) (h4 : TI P fd.type size agg) (h5 : size ≠ 0) :
    FdT P t f off size agg where
  h := ⟨fs, fd, h1, h2, h3, h4.size, h4.agg, h5⟩
section
variable {X : Cx} {H0 : List HL} {s : St} {d : Tmp} {ty : TypeId} {pos : String} {aft : Array Edge} {x y z : Operand} {q : D}
theorem ps_of {op : Op} (hd : Nat.blt d X.nt = true) (h : ∀ I a w, Sat X I s a w → ∃ v, (∀ w' : World, (∀ b, (I b ∨ fps H0 b) → w'.heap[b]? = w.heap[b]?) → (execOp a.eval ⟨some d, op, ty, pos, aft, none⟩).run X.P w' = .ok (.value v) w') ∧ Rd I w q v) :
    PureStep X H0 ⟨some d, op, ty, pos, aft, none⟩ s (s.put d q) := fun I a w hs =>
  let ⟨v, h1, h2⟩ := h I a w hs
  ⟨v, h1, hs.put (blt_lt hd) h2⟩
theorem ps_move (hx : s.ev x = some q) (hd : Nat.blt d X.nt = true) : PureStep X H0 ⟨some d, .move x, ty, pos, aft, none⟩ s (s.put d q) :=
  ps_of hd fun _ a _ hs => ⟨a.eval x, fun _ _ => rfl, hs.ev hx⟩
theorem ps_assign (hx : s.ev x = some q) (hd : Nat.blt d X.nt = true) : PureStep X H0 ⟨some d, .assign x, ty, pos, aft, none⟩ s (s.put d q) :=
  ps_of hd fun _ a _ hs => ⟨a.eval x, fun _ _ => rfl, hs.ev hx⟩
theorem ps_pickT (hx : s.ev x = some (.v (.bool true))) (hy : s.ev y = some q) (hd : Nat.blt d X.nt = true) : PureStep X H0 ⟨some d, .pick x y z, ty, pos, aft, none⟩ s (s.put d q) :=
  ps_of hd fun _ a _ hs => ⟨a.eval y, fun w' _ => by
    have e : a.eval x = .bool true := hs.ev hx
    simp [execOp, e, asBool], hs.ev hy⟩
theorem ps_pickF (hx : s.ev x = some (.v (.bool false))) (hz : s.ev z = some q) (hd : Nat.blt d X.nt = true) : PureStep X H0 ⟨some d, .pick x y z, ty, pos, aft, none⟩ s (s.put d q) :=
  ps_of hd fun _ a _ hs => ⟨a.eval z, fun w' _ => by
    have e : a.eval x = .bool false := hs.ev hx
    simp [execOp, e, asBool], hs.ev hz⟩
section ints
variable {xt yt : TypeId} {m n : Int} {kd : IntKind}
theorem ps_bin {op : BinOp} {r : Value} (hx : s.ev x = some (.v (.int kd m))) (hy : s.ev y = some (.v (.int kd n))) (hd : Nat.blt d X.nt = true)
    (hr : ∀ w, (binOp op xt (.int kd m) (.int kd n)).run X.P w = .ok r w) : PureStep X H0 ⟨some d, .binOp op xt x y yt, ty, pos, aft, none⟩ s (s.put d (.v r)) :=
  ps_of hd fun _ a _ hs => ⟨r, fun w' _ => by
    have e1 : a.eval x = .int kd m := hs.ev hx
    have e2 : a.eval y = .int kd n := hs.ev hy
    have e3 : (eqGuard op xt x y (.int kd m) (.int kd n)).run X.P w' = .ok () w' := by unfold eqGuard; cases op <;> rfl
    simp only [execOp, e1, e2, Sem.run_bind, e3, Result.andThen_ok, hr, Sem.run_pure], rfl⟩
theorem ps_add (hx : s.ev x = some (.v (.int .i64 m))) (hy : s.ev y = some (.v (.int .i64 n))) (hd : Nat.blt d X.nt = true) (hr : InI (m + n)) :
    PureStep X H0 ⟨some d, .binOp .add xt x y yt, ty, pos, aft, none⟩ s (s.put d (.v (.int .i64 (m + n)))) :=
  ps_bin hx hy hd fun w => by simp [binOp, Op.intArith, IntWalk.i64_in _ hr]
theorem ps_sub (hx : s.ev x = some (.v (.int .i64 m))) (hy : s.ev y = some (.v (.int .i64 n))) (hd : Nat.blt d X.nt = true) (hr : InI (m - n)) :
    PureStep X H0 ⟨some d, .binOp .sub xt x y yt, ty, pos, aft, none⟩ s (s.put d (.v (.int .i64 (m - n)))) :=
  ps_bin hx hy hd fun w => by simp [binOp, Op.intArith, IntWalk.i64_in _ hr]
theorem ps_rem (hx : s.ev x = some (.v (.int kd m))) (hy : s.ev y = some (.v (.int kd n))) (hd : Nat.blt d X.nt = true) (h0 : n ≠ 0) :
    PureStep X H0 ⟨some d, .binOp .rem xt x y yt, ty, pos, aft, none⟩ s (s.put d (.v (.int kd (m.tmod n)))) :=
  ps_bin hx hy hd fun w => by simp [binOp, Op.intDiv, h0]
class BoT (P : Program) (t : TypeId) : Prop where
  h : P.underlying t = some .bool
theorem ps_lss (hx : s.ev x = some (.v (.int kd m))) (hy : s.ev y = some (.v (.int kd n))) (hd : Nat.blt d X.nt = true) :
    PureStep X H0 ⟨some d, .binOp .lss xt x y yt, ty, pos, aft, none⟩ s (s.put d (.v (.bool (decide (m < n))))) :=
  ps_bin hx hy hd fun w => by simp [binOp, Op.intCmp]
theorem ps_gtr (hx : s.ev x = some (.v (.int kd m))) (hy : s.ev y = some (.v (.int kd n))) (hd : Nat.blt d X.nt = true) :
    PureStep X H0 ⟨some d, .binOp .gtr xt x y yt, ty, pos, aft, none⟩ s (s.put d (.v (.bool (decide (n < m))))) :=
  ps_bin hx hy hd fun w => by simp [binOp, Op.intCmp]
theorem ps_geq (hx : s.ev x = some (.v (.int kd m))) (hy : s.ev y = some (.v (.int kd n))) (hd : Nat.blt d X.nt = true) :
    PureStep X H0 ⟨some d, .binOp .geq xt x y yt, ty, pos, aft, none⟩ s (s.put d (.v (.bool (decide (n ≤ m))))) :=
  ps_bin hx hy hd fun w => by simp [binOp, Op.intCmp]
theorem ps_eql (hx : s.ev x = some (.v (.int kd m))) (hy : s.ev y = some (.v (.int kd n))) (hd : Nat.blt d X.nt = true) :
    PureStep X H0 ⟨some d, .binOp .eql xt x y yt, ty, pos, aft, none⟩ s (s.put d (.v (.bool (decide (m = n))))) :=
  ps_bin hx hy hd fun w => by
    simp only [binOp, ne_eq, not_true_eq_false, if_false, Op.intCmp, Sem.run_pure]
    congr 2
theorem ps_neq (hx : s.ev x = some (.v (.int kd m))) (hy : s.ev y = some (.v (.int kd n))) (hd : Nat.blt d X.nt = true) :
    PureStep X H0 ⟨some d, .binOp .neq xt x y yt, ty, pos, aft, none⟩ s (s.put d (.v (.bool (decide (m ≠ n))))) :=
  ps_bin hx hy hd fun w => by
    simp only [binOp, ne_eq, not_true_eq_false, if_false, Op.intCmp, Sem.run_pure]
    congr 2
    rw [Bool.eq_iff_iff]; simp
end ints
theorem ps_not {b : Bool} {xt : TypeId} (hx : s.ev x = some (.v (.bool b))) (hd : Nat.blt d X.nt = true) : PureStep X H0 ⟨some d, .unOp .not xt x, ty, pos, aft, none⟩ s (s.put d (.v (.bool (!b)))) :=
  ps_of hd fun _ a _ hs => ⟨_, fun w' _ => by
    have e1 : a.eval x = .bool b := hs.ev hx
    simp [execOp, e1, Op.unary], rfl⟩
theorem ps_conv {m : Int} {k k2 : IntKind} {src dst : TypeId} (hx : s.ev x = some (.v (.int k m))) (hd : Nat.blt d X.nt = true) (h1 : X.P.underlying src = some (.int k)) (h2 : X.P.underlying dst = some (.int k2)) :
    PureStep X H0 ⟨some d, .convert src dst x, ty, pos, aft, none⟩ s (s.put d (.v (.int k2 (k2.wrap m)))) :=
  ps_of hd fun _ a _ hs => ⟨_, fun w' _ => by
    have e1 : a.eval x = .int k m := hs.ev hx
    simp [execOp, e1, convert, run_underlying h1, run_underlying h2, Conv.intToInt], rfl⟩
inductive LenOf : D → Nat → Prop
  | own (β : BK) (size r len : Nat) : LenOf (.own β size r len) len
  | sl (size len : Nat) (get : Nat → Nat → D) : LenOf (.sl size len get) len
  | nil (a : Option Addr) (n c : Nat) : LenOf (.v (.slice a n c)) n
  | e0 : LenOf .e0 0
theorem LenOf.read {q : D} {n : Nat} (h : LenOf q n) {I : Nat → Prop} {w : World} {v : Value} (hr : Rd I w q v) : ∃ a c, v = .slice a n c := by
  cases h with
  | own β size r len => obtain ⟨a, c, h, _⟩ := hr; exact ⟨a, c, h⟩
  | sl size len get => obtain ⟨a, c, h, _⟩ := hr; exact ⟨a, c, h⟩
  | nil a n c => exact ⟨a, c, hr⟩
  | e0 => obtain ⟨a, h⟩ := hr; exact ⟨a, 0, h⟩
theorem ps_len {n : Nat} {t e : TypeId} [ht : SlT X.P t e] (hx : s.ev x = some q) (hl : LenOf q n) (hd : Nat.blt d X.nt = true) :
    PureStep X H0 ⟨some d, .call { callee := .builtin .len, args := #[x], argTypes := #[t] }, ty, pos, aft, none⟩ s (s.put d (.v (.int .i64 n))) :=
  ps_of hd fun _ a _ hs => by
    obtain ⟨ad, c, hv⟩ := hl.read (hs.ev hx)
    refine ⟨_, fun w' _ => ?_, rfl⟩
    simp [execOp, resolve, invoke, builtin, Builtin.len_, hv, run_underlying ht.h, goInt]
theorem ps_extract {n i : Nat} {get : Nat → D} (hx : s.ev x = some (.tp n get)) (hi : Nat.blt i n = true) (hd : Nat.blt d X.nt = true) : PureStep X H0 ⟨some d, .extract x i, ty, pos, aft, none⟩ s (s.put d (get i)) :=
  ps_of hd fun _ a _ hs => by
    obtain ⟨vs, hv, _, h⟩ := hs.ev hx
    obtain ⟨u, hu, hr⟩ := h i (blt_lt hi)
    exact ⟨u, fun w' _ => by simp [execOp, Instr.extract, hv, hu], hr⟩
theorem addr_add (b o k : Nat) : (⟨b, o, none⟩ : Addr).add k = ⟨b, o + k, none⟩ := by unfold Addr.add; split <;> simp_all
theorem ps_fieldAddr {β : BK} {size e f i off fsz : Nat} {ag : Bool} {t : TypeId} [hf : FdT X.P t i off fsz ag] (hx : s.ev x = some (.ptr β size e f)) (hd : Nat.blt d X.nt = true) :
    PureStep X H0 ⟨some d, .fieldAddr t x i, ty, pos, aft, none⟩ s (s.put d (.ptr β size e (f + off))) :=
  ps_of hd fun _ a _ hs => by
    have hv : a.eval x = .pointer (some ⟨β.b, β.o + (e * size + f), none⟩) := hs.ev hx
    obtain ⟨fs, fd, h1, h2, h3, h4, h5, h6⟩ := hf.h
    refine ⟨.pointer (some ⟨β.b, β.o + (e * size + (f + off)), none⟩), fun w' _ => ?_, rfl⟩
    simp [execOp, Instr.fieldAt, Instr.sureAddr, fieldPlace, hv, run_underlying h1, h2, h3, h4, h6, addr_add, Nat.add_assoc]
theorem ps_fieldAddrR {size len e f i off fsz : Nat} {ag : Bool} {get : Nat → Nat → D} {t : TypeId} [hf : FdT X.P t i off fsz ag] (hx : s.ev x = some (.rp size len get e f)) (hd : Nat.blt d X.nt = true) :
    PureStep X H0 ⟨some d, .fieldAddr t x i, ty, pos, aft, none⟩ s (s.put d (.rp size len get e (f + off))) :=
  ps_of hd fun _ a _ hs => by
    obtain ⟨g, q, hv, hg, hc⟩ := hs.ev hx
    obtain ⟨fs, fd, h1, h2, h3, h4, h5, h6⟩ := hf.h
    refine ⟨.pointer (some ⟨g, q + (e * size + (f + off)), none⟩), fun w' _ => ?_, g, q, rfl, hg, hc⟩
    simp [execOp, Instr.fieldAt, Instr.sureAddr, fieldPlace, hv, run_underlying h1, h2, h3, h4, h6, addr_add, Nat.add_assoc]
theorem ps_indexAddr {β : BK} {size r len : Nat} {i : Int} {kd : IntKind} {t e : TypeId} {ag : Bool} [ht : SlT X.P t e] [he : TI X.P e size ag] (hx : s.ev x = some (.own β size r len)) (hy : s.ev y = some (.v (.int kd i)))
    (hi : 0 ≤ i ∧ i < (len : Int)) (hd : Nat.blt d X.nt = true) : PureStep X H0 ⟨some d, .indexAddr t x y, ty, pos, aft, none⟩ s (s.put d (.ptr β size (i.toNat + r) 0)) :=
  ps_of hd fun _ a _ hs => by
    obtain ⟨ad, cap, hv, h1, h2, h3, h4⟩ := hs.ev hx
    have ev : a.eval y = .int kd i := hs.ev hy
    have h5 := h4 (by omega)
    refine ⟨.pointer (some ⟨β.b, β.o + ((i.toNat + r) * size + 0), none⟩), fun w' _ => ?_, rfl⟩
    have e : β.o + r * size + i.toNat * size = β.o + (i.toNat + r) * size := by rw [Nat.add_mul]; omega
    simp [execOp, Instr.indexAt, asIntOf, hv, ev, run_underlying ht.h, h5, hi, he.size, addr_add, e]
theorem ps_indexAddrR {size len : Nat} {get : Nat → Nat → D} {i : Int} {kd : IntKind} {t e : TypeId} {ag : Bool} [ht : SlT X.P t e] [he : TI X.P e size ag] (hx : s.ev x = some (.sl size len get)) (hy : s.ev y = some (.v (.int kd i)))
    (hi : 0 ≤ i ∧ i < (len : Int)) (hd : Nat.blt d X.nt = true) : PureStep X H0 ⟨some d, .indexAddr t x y, ty, pos, aft, none⟩ s (s.put d (.rp size len get i.toNat 0)) :=
  ps_of hd fun _ a _ hs => by
    obtain ⟨ad, cap, hv, h1, h2, h3⟩ := hs.ev hx
    have ev : a.eval y = .int kd i := hs.ev hy
    obtain ⟨g, q, ha, hg, hc⟩ := h3 (by omega)
    refine ⟨.pointer (some ⟨g, q + (i.toNat * size + 0), none⟩), fun w' _ => ?_, g, q, rfl, hg, hc⟩
    simp [execOp, Instr.indexAt, asIntOf, hv, ev, run_underlying ht.h, ha, hi, he.size, addr_add]
theorem ps_indexAddrA {β : BK} {size e0 f n esz : Nat} {i : Int} {kd : IntKind} {t e : TypeId} {ag : Bool} [ht : ArT X.P t n e] [he : TI X.P e esz ag] (hx : s.ev x = some (.ptr β size e0 f)) (hy : s.ev y = some (.v (.int kd i)))
    (hi : 0 ≤ i ∧ i < (n : Int)) (hd : Nat.blt d X.nt = true) : PureStep X H0 ⟨some d, .indexAddr t x y, ty, pos, aft, none⟩ s (s.put d (.ptr β size e0 (f + i.toNat * esz))) :=
  ps_of hd fun _ a _ hs => by
    have hv : a.eval x = .pointer (some ⟨β.b, β.o + (e0 * size + f), none⟩) := hs.ev hx
    have ev : a.eval y = .int kd i := hs.ev hy
    refine ⟨.pointer (some ⟨β.b, β.o + (e0 * size + (f + i.toNat * esz)), none⟩), fun w' _ => ?_, rfl⟩
    simp [execOp, Instr.indexAt, Instr.sureAddr, asIntOf, hv, ev, run_underlying ht.h, hi, he.size, addr_add, Nat.add_assoc]
theorem run_loadAgg {P : Program} (w : World) (b o n : Nat) (f : Nat → Value) (h : ∀ j, j < n → w.cell? ⟨b, o + j, none⟩ = some (f j)) :
    (loadCells ⟨b, o, none⟩ n).run P w = .ok ((List.range n).map f).toArray w := by
  have := run_loadCells_list (P := P) w ⟨b, o, none⟩ ((List.range n).map f) (fun j v hv => by
    rw [addr_add]
    have hj : j < n := by
      have := (List.getElem?_eq_some_iff.1 hv).1
      simpa using this
    rw [h j hj]
    simp [hj] at hv
    rw [hv])
  simpa using this
theorem BOk.cell {I : Nat → Prop} {w : World} {β : BK} {t : TypeId} {size : Nat} {c : C} (h : BOk I w β t size c) {e f : Nat} (he : e < c.len) (hf : f < size) :
    ∃ u, w.cell? ⟨β.b, β.o + (e * size + f), none⟩ = some u ∧ u.oneCell' = true ∧ Rd I w (c.get e f) u := by
  obtain ⟨cs, h1, h2, h3⟩ := h.2 (by have := h.1; omega)
  obtain ⟨u, hu, ho, hr⟩ := h3 e he f hf
  exact ⟨u, by rw [cell_of_row w β.b _ cs t (0, 0) h1]; exact hu, ho, hr⟩
theorem ps_load {β : BK} {size e f : Nat} {t te : TypeId} {n : Nat} {c : C} {H H1 : List HL} [ht : TI X.P t n false] (hx : s.ev x = some (.ptr β size e f)) (hm : At s.heap (.one β te size c) (.one β te size c) H) (hm0 : At H0 (.one β te size c) (.one β te size c) H1)
    (he : e < c.len) (hf : Nat.blt f size = true) (hd : Nat.blt d X.nt = true) : PureStep X H0 ⟨some d, .load t x, ty, pos, aft, none⟩ s (s.put d (c.get e f)) :=
  ps_of hd fun _ a w hs => by
    have hv : a.eval x = .pointer (some ⟨β.b, β.o + (e * size + f), none⟩) := hs.ev hx
    have hb : BOk _ w β te size c := hs.heap _ hm.mem
    obtain ⟨u, hu, _, hr⟩ := hb.cell he (blt_lt hf)
    have hpos : 0 < β.s := by have := hb.1; omega
    exact ⟨u, fun w' hw => by
      have hcell : w'.cell? ⟨β.b, β.o + (e * size + f), none⟩ = some u := (World.cell?_of_block (w := w) (w' := w') (hw β.b (.inr ⟨_, hm0.mem, hpos, rfl⟩))).trans hu
      simp [execOp, Instr.loadAt, Instr.sureAddr, hv, loadVar, ht.agg, hcell], hr⟩
theorem ps_loadR {size len e f : Nat} {get : Nat → Nat → D} {t : TypeId} {n : Nat} [ht : TI X.P t n false] (hx : s.ev x = some (.rp size len get e f))
    (he : e < len) (hf : Nat.blt f size = true) (hd : Nat.blt d X.nt = true) : PureStep X H0 ⟨some d, .load t x, ty, pos, aft, none⟩ s (s.put d (get e f)) :=
  ps_of hd fun _ a w hs => by
    obtain ⟨g, q, hv, hg, hc⟩ := hs.ev hx
    obtain ⟨u, hu, _, hr⟩ := hc e he f (blt_lt hf)
    exact ⟨u, fun w' hw => by
      have hcell : w'.cell? ⟨g, q + (e * size + f), none⟩ = some u := (World.cell?_of_block (w := w) (w' := w') (hw g (.inl hg))).trans hu
      simp [execOp, Instr.loadAt, Instr.sureAddr, hv, loadVar, ht.agg, hcell], hr⟩
theorem rd_agg {I : Nat → Prop} {w : World} {n : Nat} {g : Nat → D} {F : Nat → Value} (h : ∀ j, j < n → (F j).oneCell' = true ∧ Rd I w (g j) (F j)) : Rd I w (.ag n g) (.agg ((List.range n).map F).toArray) :=
  ⟨_, rfl, by simp, fun i hi => ⟨F i, by simp [hi], (h i hi).1, (h i hi).2⟩⟩
theorem ps_loadAg {β : BK} {size e f : Nat} {t te : TypeId} {n : Nat} {c : C} {H H1 : List HL} [ht : TI X.P t n true] (hx : s.ev x = some (.ptr β size e f)) (hm : At s.heap (.one β te size c) (.one β te size c) H) (hm0 : At H0 (.one β te size c) (.one β te size c) H1)
    (he : e < c.len) (hf : Nat.ble (f + n) size = true) (hd : Nat.blt d X.nt = true) : PureStep X H0 ⟨some d, .load t x, ty, pos, aft, none⟩ s (s.put d (.ag n (fun j => c.get e (j + f)))) :=
  ps_of hd fun _ a w hs => by
    have hv : a.eval x = .pointer (some ⟨β.b, β.o + (e * size + f), none⟩) := hs.ev hx
    have hb : BOk _ w β te size c := hs.heap _ hm.mem
    have hf' := Nat.le_of_ble_eq_true hf
    have hpos : 0 < β.s := by have := hb.1; omega
    have hc : ∀ j, ∃ u, j < n → w.cell? ⟨β.b, β.o + (e * size + f) + j, none⟩ = some u ∧ u.oneCell' = true ∧ Rd _ w (c.get e (j + f)) u := fun j => by
      by_cases hj : j < n
      · obtain ⟨u, h⟩ := hb.cell he (show j + f < size by omega)
        exact ⟨u, fun _ => by rw [show β.o + (e * size + f) + j = β.o + (e * size + (j + f)) by omega]; exact h⟩
      · exact ⟨undef, fun h => absurd h hj⟩
    obtain ⟨F, hF⟩ := Classical.axiomOfChoice hc
    refine ⟨_, fun w' hw => ?_, rd_agg fun j hj => ⟨(hF j hj).2.1, (hF j hj).2.2⟩⟩
    have hl := run_loadAgg (P := X.P) w' β.b (β.o + (e * size + f)) n F fun j hj => (World.cell?_of_block (w := w) (w' := w') (hw β.b (.inr ⟨_, hm0.mem, hpos, rfl⟩))).trans (hF j hj).1
    simp only [execOp, Instr.loadAt, Instr.sureAddr, hv, loadVar, ht.agg, ht.size, hl, Sem.run_bind, Sem.run_pure, Result.andThen_ok, if_true]
theorem ps_loadAgR {size len e f : Nat} {get : Nat → Nat → D} {t : TypeId} {n : Nat} [ht : TI X.P t n true] (hx : s.ev x = some (.rp size len get e f))
    (he : e < len) (hf : Nat.ble (f + n) size = true) (hd : Nat.blt d X.nt = true) : PureStep X H0 ⟨some d, .load t x, ty, pos, aft, none⟩ s (s.put d (.ag n (fun j => get e (j + f)))) :=
  ps_of hd fun _ a w hs => by
    obtain ⟨g, q, hv, hg, hcc⟩ := hs.ev hx
    have hf' := Nat.le_of_ble_eq_true hf
    have hc : ∀ j, ∃ u, j < n → w.cell? ⟨g, q + (e * size + f) + j, none⟩ = some u ∧ u.oneCell' = true ∧ Rd _ w (get e (j + f)) u := fun j => by
      by_cases hj : j < n
      · obtain ⟨u, h⟩ := hcc e he (j + f) (show j + f < size by omega)
        exact ⟨u, fun _ => by rw [show q + (e * size + f) + j = q + (e * size + (j + f)) by omega]; exact h⟩
      · exact ⟨undef, fun h => absurd h hj⟩
    obtain ⟨F, hF⟩ := Classical.axiomOfChoice hc
    refine ⟨_, fun w' hw => ?_, rd_agg fun j hj => ⟨(hF j hj).2.1, (hF j hj).2.2⟩⟩
    have hl := run_loadAgg (P := X.P) w' g (q + (e * size + f)) n F fun j hj => (World.cell?_of_block (w := w) (w' := w') (hw g (.inl hg))).trans (hF j hj).1
    simp only [execOp, Instr.loadAt, Instr.sureAddr, hv, loadVar, ht.agg, ht.size, hl, Sem.run_bind, Sem.run_pure, Result.andThen_ok, if_true]
end
end Go.Proofs.Ytkfmphlnpmemdaa.Sx
