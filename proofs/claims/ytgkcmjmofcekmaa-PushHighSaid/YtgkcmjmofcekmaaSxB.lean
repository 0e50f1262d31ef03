/- The walk's rules for control, and for operations that change no memory. Plain laws over any program. -/
import Derived.Test.YtgkcmjmofcekmaaSxA
import Derived.Defers
import Derived.Laws.StructEq
namespace Go.Proofs.Ytgkcmjmofcekmaa.Sx
open Go
set_option linter.unusedVariables false
set_option linter.unusedSimpArgs false

inductive It where
  | code (c : Code)
  | blk (id : Nat)
  | again (J : St → Prop)

/-- How a body may end: the calls that are deferred are still to come. -/
def bodyPostX (X : Cx) (fn : Func) (R : Ending → World → Prop) : Exit → Act → World → Prop
  | .normal, a, w | .ret, a, w => a.defers = X.ds ∧ Leaves X.P fn a.tmps R X.ds .returning w
  | .panic chain, a, w => a.defers = X.ds ∧ Leaves X.P fn a.tmps R X.ds (.panicking chain) w
  | .outgrown, _, w => R .outgrown w
  | _, _, _ => False
theorem bodyPostX.toD {X : Cx} {fn : Func} {R : Ending → World → Prop} {e : Exit} {a : Act} {w : World} (h : bodyPostX X fn R e a w) : bodyPostD X.P fn R e a w := by
  cases e with
  | normal => show Leaves _ _ _ _ a.defers _ _; rw [h.1]; exact h.2
  | ret => show Leaves _ _ _ _ a.defers _ _; rw [h.1]; exact h.2
  | panic c => show Leaves _ _ _ _ a.defers _ _; rw [h.1]; exact h.2
  | outgrown => exact h
  | exit id => exact h
  | goto l => exact h

def Kont (X : Cx) (fn : Func) (R : Ending → World → Prop) : List It → Exit → Act → World → Prop
  | [], e, a, w => bodyPostX X fn R e a w
  | .code c :: k, e, a, w => (match e with
    | .normal => c.wp X.P (Kont X fn R k) a w
    | e => Kont X fn R k e a w)
  | .blk id :: k, e, a, w => (match e with
    | .exit id' => if id' = id then Kont X fn R k .normal a w else Kont X fn R k (.exit id') a w
    | e => Kont X fn R k e a w)
  | .again J :: k, e, a, w => (match e with
    | .normal => ∃ s I, J s ∧ Sat X I s a w
    | e => Kont X fn R k e a w)

structure GoC (X : Cx) (fn : Func) (R : Ending → World → Prop) (c : Code) (k : List It) (s : St) : Prop where
  run : ∀ I a w, Sat X I s a w → c.wp X.P (Kont X fn R k) a w
structure GoO (X : Cx) (fn : Func) (R : Ending → World → Prop) (all : Array Oper) (os : List Oper) (k : List It) (s : St) : Prop where
  run : ∀ I a w, Sat X I s a w → wpList X.P all (Kont X fn R k) os a w
structure GoK (X : Cx) (fn : Func) (R : Ending → World → Prop) (k : List It) (s : St) : Prop where
  run : ∀ I a w, Sat X I s a w → Kont X fn R k .normal a w
structure GoS (X : Cx) (fn : Func) (R : Ending → World → Prop) (all : Array Oper) (pre tail : List Oper) (k : List It) (s : St) : Prop where
  run : ∀ I a w, Sat X I s a w → wpStill X.P all w (fun a' => wpList X.P all (Kont X fn R k) tail a' w) pre a

theorem blt_lt {m n : Nat} (h : Nat.blt m n = true) : m < n := by simpa using h
def boolOf : Value → Option Bool
  | .bool b => some b
  | _ => none

def popIt (id : Nat) : List It → Option (List It)
  | [] => none
  | .blk i :: k => cond (Nat.beq i id) (some k) (popIt id k)
  | .code _ :: k => popIt id k
  | .again _ :: k => popIt id k

section
variable {X : Cx} {fn : Func} {R : Ending → World → Prop} {k k' : List It} {s s' : St}

theorem Kont_exit {id : Nat} {a : Act} {w : World} : ∀ {k : List It}, popIt id k = some k' → Kont X fn R k' .normal a w → Kont X fn R k (.exit id) a w := by
  intro k
  induction k with
  | nil => intro h; cases h
  | cons x k ih =>
    intro h hk
    cases x with
    | code c => exact ih h hk
    | again J => exact ih h hk
    | blk i =>
      show (if id = i then Kont X fn R k .normal a w else Kont X fn R k (.exit id) a w)
      by_cases hi : i = id
      · subst hi
        have e : Nat.beq i i = true := by simp
        simp only [popIt, e, cond_true, Option.some.injEq] at h
        subst h
        rw [if_pos rfl]; exact hk
      · have e : Nat.beq i id = false := by rw [Bool.eq_false_iff]; exact fun e => hi (Nat.eq_of_beq_eq_true e)
        simp only [popIt, e, cond_false] at h
        rw [if_neg (fun e => hi e.symm)]
        exact ih h hk

theorem Kont_ret {a : Act} {w : World} : ∀ {k : List It}, bodyPostX X fn R .ret a w → Kont X fn R k .ret a w := by
  intro k h
  induction k with
  | nil => exact h
  | cons x k ih => cases x <;> exact ih

theorem Kont_throw {ch : List PanicEntry} {a : Act} {w : World} : ∀ {k : List It}, bodyPostX X fn R (.panic ch) a w → Kont X fn R k (.panic ch) a w := by
  intro k h
  induction k with
  | nil => exact h
  | cons x k ih => cases x <;> exact ih

theorem GoC.seq {x y : Code} (h : GoC X fn R x (.code y :: k) s) : GoC X fn R (.seq x y) k s :=
  ⟨fun I a w hs => wp_seq (wp_mono (h.run I a w hs) fun e a w hq => by cases e <;> exact hq)⟩
theorem GoC.block {id : Nat} {c : Code} (h : GoC X fn R c (.blk id :: k) s) : GoC X fn R (.block id c) k s :=
  ⟨fun I a w hs => wp_block (wp_mono (h.run I a w hs) fun e a w hq => by cases e <;> exact hq)⟩
theorem GoC.skip (h : GoK X fn R k s) : GoC X fn R .skip k s := ⟨fun I a w hs => wp_skip (h.run I a w hs)⟩
theorem GoC.label {l : Nat} (h : GoK X fn R k s) : GoC X fn R (.label l) k s := ⟨fun I a w hs => wp_label (h.run I a w hs)⟩
theorem GoC.exit {id : Nat} (hp : popIt id k = some k') (h : GoK X fn R k' s) : GoC X fn R (.exit id) k s :=
  ⟨fun I a w hs => wp_exit (Kont_exit hp (h.run I a w hs))⟩
theorem GoK.code {c : Code} (h : GoC X fn R c k s) : GoK X fn R (.code c :: k) s := ⟨fun I a w hs => h.run I a w hs⟩
theorem GoK.blk {id : Nat} (h : GoK X fn R k s) : GoK X fn R (.blk id :: k) s := ⟨fun I a w hs => h.run I a w hs⟩
theorem GoK.again {J : St → Prop} (h : J s) : GoK X fn R (.again J :: k) s := ⟨fun I a w hs => ⟨s, I, h, hs⟩⟩

theorem GoC.cond {c : Operand} {x y : Code} {t : Bool} (hc : s.ev c = some (.v (.bool t))) (h1 : t = true → GoC X fn R x k s) (h2 : t = false → GoC X fn R y k s) : GoC X fn R (.cond c x y) k s :=
  ⟨fun I a w hs => wp_cond_split (t := t) (hs.ev hc) (fun h => (h1 h).run I a w hs) (fun h => (h2 h).run I a w hs)⟩
theorem GoC.condT {c : Operand} {x y : Code} (hc : s.ev c = some (.v (.bool true))) (h : GoC X fn R x k s) : GoC X fn R (.cond c x y) k s :=
  ⟨fun I a w hs => wp_cond_true (hs.ev hc) (h.run I a w hs)⟩
theorem GoC.condF {c : Operand} {x y : Code} (hc : s.ev c = some (.v (.bool false))) (h : GoC X fn R y k s) : GoC X fn R (.cond c x y) k s :=
  ⟨fun I a w hs => wp_cond_false (hs.ev hc) (h.run I a w hs)⟩
theorem GoC.condD {c : Operand} {x y : Code} {p : Prop} [Decidable p] (hc : s.ev c = some (.v (.bool (decide p)))) (h1 : p → GoC X fn R x k s) (h2 : ¬ p → GoC X fn R y k s) : GoC X fn R (.cond c x y) k s :=
  GoC.cond hc (fun h => h1 (of_decide_eq_true h)) (fun h => h2 (of_decide_eq_false h))

theorem GoC.region {id : Nat} {ops : List Oper} (h : GoO X fn R ops.toArray ops k s) : GoC X fn R (.region id ops.toArray false) k s :=
  ⟨fun I a w hs => wp_region_lit (h.run I a w hs)⟩
theorem GoO.nil {all : Array Oper} (h : GoK X fn R k s) : GoO X fn R all [] k s := ⟨fun I a w hs => wpList_nil (h.run I a w hs)⟩

/-- A region that draws its order: what only reads first, in the text's order; the rest is forced. -/
theorem GoC.draw (n : Nat) {id : Nat} {ops pre tail : List Oper} (hm : X.P.follows .mixedOrders = true) (hB : Region.lexTailB .any ops.toArray n = true) (hp : ops.take n = pre) (ht : ops.drop n = tail)
    (h : GoS X fn R ops.toArray pre tail k s) : GoC X fn R (.region id ops.toArray true) k s :=
  ⟨fun I a w hs => wp_region_still_tail n hm hB (by subst hp ht; exact h.run I a _ hs.drew)⟩
theorem GoS.nil {all : Array Oper} {tail : List Oper} (h : GoO X fn R all tail k s) : GoS X fn R all [] tail k s := ⟨fun I a w hs => wpStill_nil (h.run I a w hs)⟩

/-- An operation that changes nothing: the same value in every world in which the rows of H0 and what is immutable are as they are. -/
def PureStep (X : Cx) (H0 : List HL) (o : Oper) (s s' : St) : Prop :=
  ∀ I a w, Sat X I s a w → ∃ v, (∀ w' : World, (∀ b, (I b ∨ fps H0 b) → w'.heap[b]? = w.heap[b]?) → (execOp a.eval o).run X.P w' = .ok (.value v) w') ∧ Sat X I s' (a.put o.dst v) w

theorem wp_value {P : Program} {all : Array Oper} {Q : Exit → Act → World → Prop} {o : Oper} {os : List Oper} {a : Act} {w w' : World} {v : Value} (hg : o.guard = none)
    (hr : (execOp a.eval o).run P w = .ok (.value v) w') (h : wpList P all Q os (a.put o.dst v) w') : wpList P all Q (o :: os) a w :=
  wpList_plain hg fun K hK => by
    unfold Oper.wp
    rw [hr]
    exact hK _ _ h
theorem wp_skipped {P : Program} {all : Array Oper} {Q : Exit → Act → World → Prop} {o : Oper} {os : List Oper} {a : Act} {w w' : World} (hg : o.guard = none)
    (hr : (execOp a.eval o).run P w = .ok .skip w') (h : wpList P all Q os (a.put o.dst undef) w') : wpList P all Q (o :: os) a w :=
  wpList_plain hg fun K hK => by
    unfold Oper.wp
    rw [hr]
    exact hK _ _ h

theorem GoO.pure {all : Array Oper} {d : Option Tmp} {op : Op} {ty : TypeId} {pos : String} {aft : Array Edge} {os : List Oper} (hp : PureStep X s.heap ⟨d, op, ty, pos, aft, none⟩ s s')
    (h : GoO X fn R all os k s') : GoO X fn R all (⟨d, op, ty, pos, aft, none⟩ :: os) k s :=
  ⟨fun I a w hs => by
    obtain ⟨v, h1, h2⟩ := hp I a w hs
    exact wp_value rfl (h1 w fun _ _ => rfl) (h.run I _ w h2)⟩
theorem GoS.pure {all : Array Oper} {d : Option Tmp} {op : Op} {ty : TypeId} {pos : String} {aft : Array Edge} {os tail : List Oper} (hp : PureStep X s.heap ⟨d, op, ty, pos, aft, none⟩ s s')
    (h : GoS X fn R all os tail k s') : GoS X fn R all (⟨d, op, ty, pos, aft, none⟩ :: os) tail k s :=
  ⟨fun I a w hs => by
    obtain ⟨v, h1, h2⟩ := hp I a w hs
    show (if Region.wanted _ _ then _ else _)
    rw [if_pos (by simp [Region.wanted])]
    unfold Oper.still
    rw [h1 w fun _ _ => rfl]
    exact ⟨rfl, h.run I _ w h2⟩⟩

/-- The slot whose bool decides a guard. -/
def gslot (all : Array Oper) (j : Nat) : Option Tmp := (all[j]?).bind (·.dst)

theorem Sat.yielded {I : Nat → Prop} {a : Act} {w : World} (hs : Sat X I s a w) {all : Array Oper} {j d : Nat} {x : Value} (hj : gslot all j = some d) (hd : Nat.blt d X.nt = true) (hb : look s.env d = some (.v x)) :
    yielded all a.tmps j = boolOf x := by
  have h1 := hs.env d _ hb
  have hsz : d < a.tmps.size := by rw [hs.tsz]; exact blt_lt hd
  have h2 : a.tmps[d]? = some x := by
    have : a.tmps.getD d undef = x := h1
    rw [Array.getD_eq_getD_getElem?, Array.getElem?_eq_getElem hsz] at this
    rw [Array.getElem?_eq_getElem hsz]
    simpa using this
  unfold Go.yielded
  unfold gslot at hj
  rw [hj]
  simp only [Option.bind_some, h2]
  cases x <;> rfl

section
variable {all : Array Oper} {d : Option Tmp} {op : Op} {ty : TypeId} {pos : String} {aft : Array Edge} {os : List Oper} {j g : Nat} {want : Bool} {t : Tmp}

theorem GoO.guardT (hj : gslot all j = some g) (hg : Nat.blt g X.nt = true) (hb : look s.env g = some (.v (.bool want))) (h : GoO X fn R all (⟨d, op, ty, pos, aft, none⟩ :: os) k s) :
    GoO X fn R all (⟨d, op, ty, pos, aft, some (j, want)⟩ :: os) k s :=
  ⟨fun I a w hs => by
    have hy := hs.yielded hj hg hb
    have h1 := h.run I a w hs
    simp only [wpList, Region.wanted, if_true] at h1
    simp only [wpList, Region.wanted, hy, boolOf, beq_self_eq_true, if_true]
    exact h1⟩
theorem GoO.guardN {x : Value} (hj : gslot all j = some g) (hg : Nat.blt g X.nt = true) (hb : look s.env g = some (.v x)) (hx : boolOf x ≠ some want) (ht : Nat.blt t X.nt = true)
    (h : GoO X fn R all os k (s.put t (.v undef))) : GoO X fn R all (⟨some t, op, ty, pos, aft, some (j, want)⟩ :: os) k s :=
  ⟨fun I a w hs => by
    have hy := hs.yielded hj hg hb
    have hne : (boolOf x == some want) = false := by
      rw [Bool.eq_false_iff]; exact fun e => hx (eq_of_beq e)
    simp only [wpList, Region.wanted, hy, hne, Bool.false_eq_true, if_false]
    exact h.run I _ w (hs.put (blt_lt ht) rfl)⟩
theorem GoO.guardF (hj : gslot all j = some g) (hg : Nat.blt g X.nt = true) (hb : look s.env g = some (.v (.bool (!want)))) (ht : Nat.blt t X.nt = true)
    (h : GoO X fn R all os k (s.put t (.v undef))) : GoO X fn R all (⟨some t, op, ty, pos, aft, some (j, want)⟩ :: os) k s :=
  GoO.guardN hj hg hb (by cases want <;> simp [boolOf]) ht h
theorem GoO.guardU (hj : gslot all j = some g) (hg : Nat.blt g X.nt = true) (hb : look s.env g = some (.v undef)) (ht : Nat.blt t X.nt = true)
    (h : GoO X fn R all os k (s.put t (.v undef))) : GoO X fn R all (⟨some t, op, ty, pos, aft, some (j, want)⟩ :: os) k s :=
  GoO.guardN hj hg hb (by simp [undef, boolOf]) ht h

theorem Sat.reput {I : Nat → Prop} {a : Act} {w : World} (hs : Sat X I s a w) {x y : Value} (hb : look s.env g = some (.v x)) (e : x = y) : Sat X I (s.put g (.v y)) a w := by
  subst e
  refine ⟨hs.tsz, hs.dfr, fun i e he => ?_, hs.heap, hs.sep, hs.own, hs.imm, hs.i0, hs.same⟩
  rw [look_put] at he
  by_cases h : g = i
  · subst h
    rw [if_pos rfl] at he
    cases he
    exact hs.env g _ hb
  · rw [if_neg h] at he
    exact hs.env i e he

/-- A slot's bool is decided. -/
theorem GoO.decide {b : Bool} (g : Nat) (hb : look s.env g = some (.v (.bool b))) (h1 : b = true → GoO X fn R all os k (s.put g (.v (.bool true)))) (h2 : b = false → GoO X fn R all os k (s.put g (.v (.bool false)))) :
    GoO X fn R all os k s :=
  ⟨fun I a w hs => by
    cases hbb : b with
    | true => exact (h1 hbb).run I a w (hs.reput hb (by rw [hbb]))
    | false => exact (h2 hbb).run I a w (hs.reput hb (by rw [hbb]))⟩
theorem GoO.decideD {p : Prop} [Decidable p] (g : Nat) (hb : look s.env g = some (.v (.bool (Decidable.decide p)))) (h1 : p → GoO X fn R all os k (s.put g (.v (.bool true)))) (h2 : ¬ p → GoO X fn R all os k (s.put g (.v (.bool false)))) :
    GoO X fn R all os k s :=
  GoO.decide g hb (fun h => h1 (of_decide_eq_true h)) (fun h => h2 (of_decide_eq_false h))

theorem GoO.guard {b : Bool} (hj : gslot all j = some g) (hg : Nat.blt g X.nt = true) (hb : look s.env g = some (.v (.bool b))) (ht : Nat.blt t X.nt = true)
    (h1 : b = want → GoO X fn R all (⟨some t, op, ty, pos, aft, none⟩ :: os) k (s.put g (.v (.bool want))))
    (h2 : b = (!want) → GoO X fn R all os k ((s.put g (.v (.bool (!want)))).put t (.v undef))) : GoO X fn R all (⟨some t, op, ty, pos, aft, some (j, want)⟩ :: os) k s :=
  ⟨fun I a w hs => by
    have hp : ∀ y, look (s.put g y).env g = some y := fun y => by rw [look_put, if_pos rfl]
    by_cases hw : b = want
    · exact (GoO.guardT hj hg (hp _) (h1 hw)).run I a w (hs.reput hb (by rw [hw]))
    · have hw' : b = (!want) := by cases b <;> cases want <;> simp_all
      exact (GoO.guardF hj hg (hp _) ht (h2 hw')).run I a w (hs.reput hb (by rw [hw']))⟩
/-- The guard is a test: where it asks for true. -/
theorem GoO.guardD {p : Prop} [Decidable p] (hj : gslot all j = some g) (hg : Nat.blt g X.nt = true) (hb : look s.env g = some (.v (.bool (Decidable.decide p)))) (ht : Nat.blt t X.nt = true)
    (h1 : p → GoO X fn R all (⟨some t, op, ty, pos, aft, none⟩ :: os) k (s.put g (.v (.bool true))))
    (h2 : ¬ p → GoO X fn R all os k ((s.put g (.v (.bool false))).put t (.v undef))) : GoO X fn R all (⟨some t, op, ty, pos, aft, some (j, true)⟩ :: os) k s :=
  GoO.guard hj hg hb ht (fun h => h1 (of_decide_eq_true h)) (fun h => h2 (of_decide_eq_false h))
/-- .. and where it asks for false. -/
theorem GoO.guardE {p : Prop} [Decidable p] (hj : gslot all j = some g) (hg : Nat.blt g X.nt = true) (hb : look s.env g = some (.v (.bool (Decidable.decide p)))) (ht : Nat.blt t X.nt = true)
    (h2 : ¬ p → GoO X fn R all (⟨some t, op, ty, pos, aft, none⟩ :: os) k (s.put g (.v (.bool false))))
    (h1 : p → GoO X fn R all os k ((s.put g (.v (.bool true))).put t (.v undef))) : GoO X fn R all (⟨some t, op, ty, pos, aft, some (j, false)⟩ :: os) k s :=
  GoO.guard hj hg hb ht (fun h => h2 (of_decide_eq_false h)) (fun h => h1 (of_decide_eq_true h))
end
end

/-! ### Operations that change nothing -/
/-- z fits an int. -/
def InI (z : Int) : Prop := -9223372036854775808 ≤ z ∧ z ≤ 9223372036854775807
theorem InI.of {z : Int} (h1 : -1000000000000 ≤ z) (h2 : z ≤ 1000000000000) : InI z := by unfold InI; omega

class SlT (P : Program) (t : TypeId) (e : outParam TypeId) : Prop where
  h : P.underlying t = some (.slice e)
class TI (P : Program) (t : TypeId) (size : outParam Nat) (agg : outParam Bool) : Prop where
  size : ∀ w, (sizeOf t).run P w = .ok size w
  agg : ∀ w, (isAgg t).run P w = .ok agg w
/-- An array type: so many elements of this type. -/
class ArT (P : Program) (t : TypeId) (n : outParam Nat) (e : outParam TypeId) : Prop where
  h : P.underlying t = some (.array n e)
/-- Field number f of struct type t: at this cell, so many cells, a struct itself or not. -/
class FdT (P : Program) (t : TypeId) (f : Nat) (off : outParam Nat) (size : outParam Nat) (agg : outParam Bool) : Prop where
  h : ∃ fs fd, P.underlying t = some (.struct fs) ∧ fs[f]? = some fd ∧ fd.offset = off ∧ (∀ w, (sizeOf fd.type).run P w = .ok size w) ∧ (∀ w, (isAgg fd.type).run P w = .ok agg w) ∧ size ≠ 0

theorem TI.of {P : Program} {t : TypeId} {size : Nat} {agg : Bool} {d : TypeDesc} (h1 : (P.info? t).map (·.size) = some size) (h2 : P.underlying t = some d)
    (h3 : (match d with | .struct _ | .array _ _ => true | _ => false) = agg) : TI P t size agg where
  size := fun w => by
    cases h : P.info? t with
    | none => simp [h] at h1
    | some i => simp [h] at h1; simp [sizeOf, typeInfo, h, h1]
  agg := fun w => by
    unfold isAgg
    rw [Sem.run_bind, run_underlying h2 w]
    cases d <;> simp_all

theorem FdT.of {P : Program} {t : TypeId} {f off size : Nat} {agg : Bool} {fs : Array Field} {fd : Field} (h1 : P.underlying t = some (.struct fs)) (h2 : fs[f]? = some fd) (h3 : fd.offset = off) (h4 : TI P fd.type size agg) (h5 : size ≠ 0) :
    FdT P t f off size agg where
  h := ⟨fs, fd, h1, h2, h3, h4.size, h4.agg, h5⟩

section
variable {X : Cx} {H0 : List HL} {s : St} {d : Tmp} {ty : TypeId} {pos : String} {aft : Array Edge} {x y z : Operand} {q : D}

theorem ps_of {op : Op} (hd : Nat.blt d X.nt = true) (h : ∀ I a w, Sat X I s a w → ∃ v, (∀ w' : World, (∀ b, (I b ∨ fps H0 b) → w'.heap[b]? = w.heap[b]?) → (execOp a.eval ⟨some d, op, ty, pos, aft, none⟩).run X.P w' = .ok (.value v) w') ∧ Rd I w q v) :
    PureStep X H0 ⟨some d, op, ty, pos, aft, none⟩ s (s.put d q) := fun I a w hs =>
  let ⟨v, h1, h2⟩ := h I a w hs
  ⟨v, h1, hs.put (blt_lt hd) h2⟩

theorem ps_move (hx : s.ev x = some q) (hd : Nat.blt d X.nt = true) : PureStep X H0 ⟨some d, .move x, ty, pos, aft, none⟩ s (s.put d q) :=
  ps_of hd fun _ a _ hs => ⟨a.eval x, fun _ _ => rfl, hs.ev hx⟩
theorem ps_assign (hx : s.ev x = some q) (hd : Nat.blt d X.nt = true) : PureStep X H0 ⟨some d, .assign x, ty, pos, aft, none⟩ s (s.put d q) :=
  ps_of hd fun _ a _ hs => ⟨a.eval x, fun _ _ => rfl, hs.ev hx⟩
theorem ps_pickT (hx : s.ev x = some (.v (.bool true))) (hy : s.ev y = some q) (hd : Nat.blt d X.nt = true) : PureStep X H0 ⟨some d, .pick x y z, ty, pos, aft, none⟩ s (s.put d q) :=
  ps_of hd fun _ a _ hs => ⟨a.eval y, fun w' _ => by
    have e : a.eval x = .bool true := hs.ev hx
    simp [execOp, e, asBool], hs.ev hy⟩
theorem ps_pickF (hx : s.ev x = some (.v (.bool false))) (hz : s.ev z = some q) (hd : Nat.blt d X.nt = true) : PureStep X H0 ⟨some d, .pick x y z, ty, pos, aft, none⟩ s (s.put d q) :=
  ps_of hd fun _ a _ hs => ⟨a.eval z, fun w' _ => by
    have e : a.eval x = .bool false := hs.ev hx
    simp [execOp, e, asBool], hs.ev hz⟩

section ints
variable {xt yt : TypeId} {m n : Int} {kd : IntKind}

theorem ps_bin {op : BinOp} {r : Value} (hx : s.ev x = some (.v (.int kd m))) (hy : s.ev y = some (.v (.int kd n))) (hd : Nat.blt d X.nt = true)
    (hr : ∀ w, (binOp op xt (.int kd m) (.int kd n)).run X.P w = .ok r w) : PureStep X H0 ⟨some d, .binOp op xt x y yt, ty, pos, aft, none⟩ s (s.put d (.v r)) :=
  ps_of hd fun _ a _ hs => ⟨r, fun w' _ => by
    have e1 : a.eval x = .int kd m := hs.ev hx
    have e2 : a.eval y = .int kd n := hs.ev hy
    have e3 : (eqGuard op xt x y (.int kd m) (.int kd n)).run X.P w' = .ok () w' := by unfold eqGuard; cases op <;> rfl
    simp only [execOp, e1, e2, Sem.run_bind, e3, Result.andThen_ok, hr, Sem.run_pure], rfl⟩

theorem ps_add (hx : s.ev x = some (.v (.int .i64 m))) (hy : s.ev y = some (.v (.int .i64 n))) (hd : Nat.blt d X.nt = true) (hr : InI (m + n)) :
    PureStep X H0 ⟨some d, .binOp .add xt x y yt, ty, pos, aft, none⟩ s (s.put d (.v (.int .i64 (m + n)))) :=
  ps_bin hx hy hd fun w => by simp [binOp, Op.intArith, IntWalk.i64_in _ hr]
theorem ps_sub (hx : s.ev x = some (.v (.int .i64 m))) (hy : s.ev y = some (.v (.int .i64 n))) (hd : Nat.blt d X.nt = true) (hr : InI (m - n)) :
    PureStep X H0 ⟨some d, .binOp .sub xt x y yt, ty, pos, aft, none⟩ s (s.put d (.v (.int .i64 (m - n)))) :=
  ps_bin hx hy hd fun w => by simp [binOp, Op.intArith, IntWalk.i64_in _ hr]
theorem ps_mul (hx : s.ev x = some (.v (.int .i64 m))) (hy : s.ev y = some (.v (.int .i64 n))) (hd : Nat.blt d X.nt = true) (hr : InI (m * n)) :
    PureStep X H0 ⟨some d, .binOp .mul xt x y yt, ty, pos, aft, none⟩ s (s.put d (.v (.int .i64 (m * n)))) :=
  ps_bin hx hy hd fun w => by simp [binOp, Op.intArith, IntWalk.i64_in _ hr]
theorem ps_quo (hx : s.ev x = some (.v (.int .i64 m))) (hy : s.ev y = some (.v (.int .i64 n))) (hd : Nat.blt d X.nt = true) (h0 : n ≠ 0) (hr : InI (m.tdiv n)) :
    PureStep X H0 ⟨some d, .binOp .quo xt x y yt, ty, pos, aft, none⟩ s (s.put d (.v (.int .i64 (m.tdiv n)))) :=
  ps_bin hx hy hd fun w => by simp [binOp, Op.intDiv, h0, IntWalk.i64_in _ hr]
theorem ps_rem (hx : s.ev x = some (.v (.int kd m))) (hy : s.ev y = some (.v (.int kd n))) (hd : Nat.blt d X.nt = true) (h0 : n ≠ 0) :
    PureStep X H0 ⟨some d, .binOp .rem xt x y yt, ty, pos, aft, none⟩ s (s.put d (.v (.int kd (m.tmod n)))) :=
  ps_bin hx hy hd fun w => by simp [binOp, Op.intDiv, h0]
class BoT (P : Program) (t : TypeId) : Prop where
  h : P.underlying t = some .bool
theorem run_equal_bool {P : Program} {t : TypeId} [ht : BoT P t] (p q : Bool) (w : World) : (Op.equal t (.bool p) (.bool q)).run P w = .ok (p == q) w :=
  run_equalIn_bool' (P := P) w 9999 t p q ht.h
theorem run_eqlB {P : Program} {t : TypeId} [ht : BoT P t] (p q : Bool) (w : World) : (binOp .eql t (.bool p) (.bool q)).run P w = .ok (.bool (p == q)) w := by
  have h := run_equal_bool (P := P) (t := t) p q w
  simp only [binOp, Sem.run_bind, h, Result.andThen_ok, Sem.run_pure]
theorem run_neqB {P : Program} {t : TypeId} [ht : BoT P t] (p q : Bool) (w : World) : (binOp .neq t (.bool p) (.bool q)).run P w = .ok (.bool (!(p == q))) w := by
  have h := run_equal_bool (P := P) (t := t) p q w
  simp only [binOp, Sem.run_bind, h, Result.andThen_ok, Sem.run_pure]
theorem ps_eqlB {p q : Bool} [ht : BoT X.P xt] (hx : s.ev x = some (.v (.bool p))) (hy : s.ev y = some (.v (.bool q))) (hd : Nat.blt d X.nt = true) :
    PureStep X H0 ⟨some d, .binOp .eql xt x y yt, ty, pos, aft, none⟩ s (s.put d (.v (.bool (decide (p = q))))) :=
  ps_of hd fun _ a _ hs => ⟨.bool (decide (p = q)), fun w' _ => by
    have e1 : a.eval x = .bool p := hs.ev hx
    have e2 : a.eval y = .bool q := hs.ev hy
    have e3 : (p == q) = decide (p = q) := by cases p <;> cases q <;> rfl
    have e4 : (eqGuard .eql xt x y (.bool p) (.bool q)).run X.P w' = .ok () w' := rfl
    rw [← e3]
    simp only [execOp, e1, e2, Sem.run_bind, e4, Result.andThen_ok, run_eqlB, Sem.run_pure], rfl⟩
theorem ps_neqB {p q : Bool} [ht : BoT X.P xt] (hx : s.ev x = some (.v (.bool p))) (hy : s.ev y = some (.v (.bool q))) (hd : Nat.blt d X.nt = true) :
    PureStep X H0 ⟨some d, .binOp .neq xt x y yt, ty, pos, aft, none⟩ s (s.put d (.v (.bool (decide (p ≠ q))))) :=
  ps_of hd fun _ a _ hs => ⟨.bool (decide (p ≠ q)), fun w' _ => by
    have e1 : a.eval x = .bool p := hs.ev hx
    have e2 : a.eval y = .bool q := hs.ev hy
    have e3 : (!(p == q)) = decide (p ≠ q) := by cases p <;> cases q <;> rfl
    have e4 : (eqGuard .neq xt x y (.bool p) (.bool q)).run X.P w' = .ok () w' := rfl
    rw [← e3]
    simp only [execOp, e1, e2, Sem.run_bind, e4, Result.andThen_ok, run_neqB, Sem.run_pure], rfl⟩
/-- the same, nothing said of the size: the sum is wrapped. -/
theorem ps_addw (hx : s.ev x = some (.v (.int kd m))) (hy : s.ev y = some (.v (.int kd n))) (hd : Nat.blt d X.nt = true) :
    PureStep X H0 ⟨some d, .binOp .add xt x y yt, ty, pos, aft, none⟩ s (s.put d (.v (.int kd (kd.wrap (m + n))))) :=
  ps_bin hx hy hd fun w => by simp [binOp, Op.intArith]
theorem ps_subw (hx : s.ev x = some (.v (.int kd m))) (hy : s.ev y = some (.v (.int kd n))) (hd : Nat.blt d X.nt = true) :
    PureStep X H0 ⟨some d, .binOp .sub xt x y yt, ty, pos, aft, none⟩ s (s.put d (.v (.int kd (kd.wrap (m - n))))) :=
  ps_bin hx hy hd fun w => by simp [binOp, Op.intArith]
theorem ps_lss (hx : s.ev x = some (.v (.int kd m))) (hy : s.ev y = some (.v (.int kd n))) (hd : Nat.blt d X.nt = true) :
    PureStep X H0 ⟨some d, .binOp .lss xt x y yt, ty, pos, aft, none⟩ s (s.put d (.v (.bool (decide (m < n))))) :=
  ps_bin hx hy hd fun w => by simp [binOp, Op.intCmp]
theorem ps_leq (hx : s.ev x = some (.v (.int kd m))) (hy : s.ev y = some (.v (.int kd n))) (hd : Nat.blt d X.nt = true) :
    PureStep X H0 ⟨some d, .binOp .leq xt x y yt, ty, pos, aft, none⟩ s (s.put d (.v (.bool (decide (m ≤ n))))) :=
  ps_bin hx hy hd fun w => by simp [binOp, Op.intCmp]
theorem ps_gtr (hx : s.ev x = some (.v (.int kd m))) (hy : s.ev y = some (.v (.int kd n))) (hd : Nat.blt d X.nt = true) :
    PureStep X H0 ⟨some d, .binOp .gtr xt x y yt, ty, pos, aft, none⟩ s (s.put d (.v (.bool (decide (n < m))))) :=
  ps_bin hx hy hd fun w => by simp [binOp, Op.intCmp]
theorem ps_geq (hx : s.ev x = some (.v (.int kd m))) (hy : s.ev y = some (.v (.int kd n))) (hd : Nat.blt d X.nt = true) :
    PureStep X H0 ⟨some d, .binOp .geq xt x y yt, ty, pos, aft, none⟩ s (s.put d (.v (.bool (decide (n ≤ m))))) :=
  ps_bin hx hy hd fun w => by simp [binOp, Op.intCmp]
theorem ps_eql (hx : s.ev x = some (.v (.int kd m))) (hy : s.ev y = some (.v (.int kd n))) (hd : Nat.blt d X.nt = true) :
    PureStep X H0 ⟨some d, .binOp .eql xt x y yt, ty, pos, aft, none⟩ s (s.put d (.v (.bool (decide (m = n))))) :=
  ps_bin hx hy hd fun w => by
    simp only [binOp, ne_eq, not_true_eq_false, if_false, Op.intCmp, Sem.run_pure]
    congr 2
theorem ps_neq (hx : s.ev x = some (.v (.int kd m))) (hy : s.ev y = some (.v (.int kd n))) (hd : Nat.blt d X.nt = true) :
    PureStep X H0 ⟨some d, .binOp .neq xt x y yt, ty, pos, aft, none⟩ s (s.put d (.v (.bool (decide (m ≠ n))))) :=
  ps_bin hx hy hd fun w => by
    simp only [binOp, ne_eq, not_true_eq_false, if_false, Op.intCmp, Sem.run_pure]
    congr 2
    rw [Bool.eq_iff_iff]; simp
theorem ps_neg (hx : s.ev x = some (.v (.int .i64 m))) (hd : Nat.blt d X.nt = true) (hr : InI (-m)) :
    PureStep X H0 ⟨some d, .unOp .neg xt x, ty, pos, aft, none⟩ s (s.put d (.v (.int .i64 (-m)))) :=
  ps_of hd fun _ a _ hs => ⟨.int .i64 (-m), fun w' _ => by
    have e1 : a.eval x = .int .i64 m := hs.ev hx
    have e2 : IntKind.i64.wrap (-m) = -m := IntWalk.i64_in _ hr
    simp [execOp, e1, Op.unary, Op.intArith, e2], rfl⟩
end ints

theorem ps_not {b : Bool} {xt : TypeId} (hx : s.ev x = some (.v (.bool b))) (hd : Nat.blt d X.nt = true) : PureStep X H0 ⟨some d, .unOp .not xt x, ty, pos, aft, none⟩ s (s.put d (.v (.bool (!b)))) :=
  ps_of hd fun _ a _ hs => ⟨_, fun w' _ => by
    have e1 : a.eval x = .bool b := hs.ev hx
    simp [execOp, e1, Op.unary], rfl⟩
theorem ps_notD {p : Prop} [Decidable p] {xt : TypeId} (hx : s.ev x = some (.v (.bool (decide p)))) (hd : Nat.blt d X.nt = true) : PureStep X H0 ⟨some d, .unOp .not xt x, ty, pos, aft, none⟩ s (s.put d (.v (.bool (decide ¬ p)))) := by
  have e : (decide ¬ p) = !decide p := by by_cases h : p <;> simp [h]
  rw [e]
  exact ps_not hx hd

theorem ps_conv {m : Int} {k k2 : IntKind} {src dst : TypeId} (hx : s.ev x = some (.v (.int k m))) (hd : Nat.blt d X.nt = true) (h1 : X.P.underlying src = some (.int k)) (h2 : X.P.underlying dst = some (.int k2)) :
    PureStep X H0 ⟨some d, .convert src dst x, ty, pos, aft, none⟩ s (s.put d (.v (.int k2 (k2.wrap m)))) :=
  ps_of hd fun _ a _ hs => ⟨_, fun w' _ => by
    have e1 : a.eval x = .int k m := hs.ev hx
    simp [execOp, e1, convert, run_underlying h1, run_underlying h2, Conv.intToInt], rfl⟩

/-- The length of a slice: whatever it reads as. -/
inductive LenOf : D → Nat → Prop
  | own (β : BK) (size r len : Nat) : LenOf (.own β size r len) len
  | sl (size len : Nat) (get : Nat → Nat → D) : LenOf (.sl size len get) len
  | nil (a : Option Addr) (n c : Nat) : LenOf (.v (.slice a n c)) n
  | e0 : LenOf .e0 0
theorem LenOf.read {q : D} {n : Nat} (h : LenOf q n) {I : Nat → Prop} {w : World} {v : Value} (hr : Rd I w q v) : ∃ a c, v = .slice a n c := by
  cases h with
  | own β size r len => obtain ⟨a, c, h, _⟩ := hr; exact ⟨a, c, h⟩
  | sl size len get => obtain ⟨a, c, h, _⟩ := hr; exact ⟨a, c, h⟩
  | nil a n c => exact ⟨a, c, hr⟩
  | e0 => obtain ⟨a, h⟩ := hr; exact ⟨a, 0, h⟩

theorem ps_len {n : Nat} {t e : TypeId} [ht : SlT X.P t e] (hx : s.ev x = some q) (hl : LenOf q n) (hd : Nat.blt d X.nt = true) :
    PureStep X H0 ⟨some d, .call { callee := .builtin .len, args := #[x], argTypes := #[t] }, ty, pos, aft, none⟩ s (s.put d (.v (.int .i64 n))) :=
  ps_of hd fun _ a _ hs => by
    obtain ⟨ad, c, hv⟩ := hl.read (hs.ev hx)
    refine ⟨_, fun w' _ => ?_, rfl⟩
    simp [execOp, resolve, invoke, builtin, Builtin.len_, hv, run_underlying ht.h, goInt]

theorem ps_extract {n i : Nat} {get : Nat → D} (hx : s.ev x = some (.tp n get)) (hi : Nat.blt i n = true) (hd : Nat.blt d X.nt = true) : PureStep X H0 ⟨some d, .extract x i, ty, pos, aft, none⟩ s (s.put d (get i)) :=
  ps_of hd fun _ a _ hs => by
    obtain ⟨vs, hv, _, h⟩ := hs.ev hx
    obtain ⟨u, hu, hr⟩ := h i (blt_lt hi)
    exact ⟨u, fun w' _ => by simp [execOp, Instr.extract, hv, hu], hr⟩

theorem ps_field {n i off size : Nat} {t : TypeId} {get : Nat → D} [hf : FdT X.P t i off size false] (hx : s.ev x = some (.ag n get)) (hi : Nat.blt off n = true) (hd : Nat.blt d X.nt = true) :
    PureStep X H0 ⟨some d, .field t x i, ty, pos, aft, none⟩ s (s.put d (get off)) :=
  ps_of hd fun _ a _ hs => by
    obtain ⟨vs, hv, _, h⟩ := hs.ev hx
    obtain ⟨u, hu, _, hr⟩ := h off (blt_lt hi)
    obtain ⟨fs, fd, h1, h2, h3, h4, h5, _⟩ := hf.h
    exact ⟨u, fun w' _ => by simp [execOp, Instr.field, hv, run_underlying h1, h2, asAgg, part, h5, h3, hu], hr⟩
theorem ps_fieldAg {n i off size : Nat} {t : TypeId} {get : Nat → D} [hf : FdT X.P t i off size true] (hx : s.ev x = some (.ag n get)) (hi : Nat.ble (off + size) n = true) (hd : Nat.blt d X.nt = true) :
    PureStep X H0 ⟨some d, .field t x i, ty, pos, aft, none⟩ s (s.put d (.ag size (fun j => get (j + off)))) :=
  ps_of hd fun _ a _ hs => by
    obtain ⟨vs, hv, hsz, h⟩ := hs.ev hx
    obtain ⟨fs, fd, h1, h2, h3, h4, h5, _⟩ := hf.h
    have hi' := Nat.le_of_ble_eq_true hi
    refine ⟨.agg (vs.extract off (off + size)), fun w' _ => by simp [execOp, Instr.field, hv, run_underlying h1, h2, asAgg, part, h4, h5, h3], vs.extract off (off + size), rfl, by simp; omega, fun j hj => ?_⟩
    obtain ⟨u, hu, ho, hr⟩ := h (j + off) (by omega)
    refine ⟨u, ?_, ho, hr⟩
    rw [Array.getElem?_extract, if_pos (by omega), Nat.add_comm]
    exact hu

/-! addresses -/
theorem addr_add (b o k : Nat) : (⟨b, o, none⟩ : Addr).add k = ⟨b, o + k, none⟩ := by unfold Addr.add; split <;> simp_all

theorem ps_fieldAddr {β : BK} {size e f i off fsz : Nat} {ag : Bool} {t : TypeId} [hf : FdT X.P t i off fsz ag] (hx : s.ev x = some (.ptr β size e f)) (hd : Nat.blt d X.nt = true) :
    PureStep X H0 ⟨some d, .fieldAddr t x i, ty, pos, aft, none⟩ s (s.put d (.ptr β size e (f + off))) :=
  ps_of hd fun _ a _ hs => by
    have hv : a.eval x = .pointer (some ⟨β.b, β.o + (e * size + f), none⟩) := hs.ev hx
    obtain ⟨fs, fd, h1, h2, h3, h4, h5, h6⟩ := hf.h
    refine ⟨.pointer (some ⟨β.b, β.o + (e * size + (f + off)), none⟩), fun w' _ => ?_, rfl⟩
    simp [execOp, Instr.fieldAt, Instr.sureAddr, fieldPlace, hv, run_underlying h1, h2, h3, h4, h6, addr_add, Nat.add_assoc]
theorem ps_fieldAddrR {size len e f i off fsz : Nat} {ag : Bool} {get : Nat → Nat → D} {t : TypeId} [hf : FdT X.P t i off fsz ag] (hx : s.ev x = some (.rp size len get e f)) (hd : Nat.blt d X.nt = true) :
    PureStep X H0 ⟨some d, .fieldAddr t x i, ty, pos, aft, none⟩ s (s.put d (.rp size len get e (f + off))) :=
  ps_of hd fun _ a _ hs => by
    obtain ⟨g, q, hv, hg, hc⟩ := hs.ev hx
    obtain ⟨fs, fd, h1, h2, h3, h4, h5, h6⟩ := hf.h
    refine ⟨.pointer (some ⟨g, q + (e * size + (f + off)), none⟩), fun w' _ => ?_, g, q, rfl, hg, hc⟩
    simp [execOp, Instr.fieldAt, Instr.sureAddr, fieldPlace, hv, run_underlying h1, h2, h3, h4, h6, addr_add, Nat.add_assoc]

theorem ps_indexAddr {β : BK} {size r len : Nat} {i : Int} {kd : IntKind} {t e : TypeId} {ag : Bool} [ht : SlT X.P t e] [he : TI X.P e size ag] (hx : s.ev x = some (.own β size r len)) (hy : s.ev y = some (.v (.int kd i)))
    (hi : 0 ≤ i ∧ i < (len : Int)) (hd : Nat.blt d X.nt = true) : PureStep X H0 ⟨some d, .indexAddr t x y, ty, pos, aft, none⟩ s (s.put d (.ptr β size (i.toNat + r) 0)) :=
  ps_of hd fun _ a _ hs => by
    obtain ⟨ad, cap, hv, h1, h2, h3, h4⟩ := hs.ev hx
    have ev : a.eval y = .int kd i := hs.ev hy
    have h5 := h4 (by omega)
    refine ⟨.pointer (some ⟨β.b, β.o + ((i.toNat + r) * size + 0), none⟩), fun w' _ => ?_, rfl⟩
    have e : β.o + r * size + i.toNat * size = β.o + (i.toNat + r) * size := by rw [Nat.add_mul]; omega
    simp [execOp, Instr.indexAt, asIntOf, hv, ev, run_underlying ht.h, h5, hi, he.size, addr_add, e]
theorem ps_indexAddrR {size len : Nat} {get : Nat → Nat → D} {i : Int} {kd : IntKind} {t e : TypeId} {ag : Bool} [ht : SlT X.P t e] [he : TI X.P e size ag] (hx : s.ev x = some (.sl size len get)) (hy : s.ev y = some (.v (.int kd i)))
    (hi : 0 ≤ i ∧ i < (len : Int)) (hd : Nat.blt d X.nt = true) : PureStep X H0 ⟨some d, .indexAddr t x y, ty, pos, aft, none⟩ s (s.put d (.rp size len get i.toNat 0)) :=
  ps_of hd fun _ a _ hs => by
    obtain ⟨ad, cap, hv, h1, h2, h3⟩ := hs.ev hx
    have ev : a.eval y = .int kd i := hs.ev hy
    obtain ⟨g, q, ha, hg, hc⟩ := h3 (by omega)
    refine ⟨.pointer (some ⟨g, q + (i.toNat * size + 0), none⟩), fun w' _ => ?_, g, q, rfl, hg, hc⟩
    simp [execOp, Instr.indexAt, asIntOf, hv, ev, run_underlying ht.h, ha, hi, he.size, addr_add]
/-- an element of an array that lies among the cells of an element -/
theorem ps_indexAddrA {β : BK} {size e0 f n esz : Nat} {i : Int} {kd : IntKind} {t e : TypeId} {ag : Bool} [ht : ArT X.P t n e] [he : TI X.P e esz ag] (hx : s.ev x = some (.ptr β size e0 f)) (hy : s.ev y = some (.v (.int kd i)))
    (hi : 0 ≤ i ∧ i < (n : Int)) (hd : Nat.blt d X.nt = true) : PureStep X H0 ⟨some d, .indexAddr t x y, ty, pos, aft, none⟩ s (s.put d (.ptr β size e0 (f + i.toNat * esz))) :=
  ps_of hd fun _ a _ hs => by
    have hv : a.eval x = .pointer (some ⟨β.b, β.o + (e0 * size + f), none⟩) := hs.ev hx
    have ev : a.eval y = .int kd i := hs.ev hy
    refine ⟨.pointer (some ⟨β.b, β.o + (e0 * size + (f + i.toNat * esz)), none⟩), fun w' _ => ?_, rfl⟩
    simp [execOp, Instr.indexAt, Instr.sureAddr, asIntOf, hv, ev, run_underlying ht.h, hi, he.size, addr_add, Nat.add_assoc]
/-- the same, the slice a whole block -/
theorem ps_indexAddr0 {β : BK} {size len : Nat} {i : Int} {kd : IntKind} {t e : TypeId} {ag : Bool} [ht : SlT X.P t e] [he : TI X.P e size ag] (hx : s.ev x = some (.own β size 0 len)) (hy : s.ev y = some (.v (.int kd i)))
    (hi : 0 ≤ i ∧ i < (len : Int)) (hd : Nat.blt d X.nt = true) : PureStep X H0 ⟨some d, .indexAddr t x y, ty, pos, aft, none⟩ s (s.put d (.ptr β size i.toNat 0)) :=
  ps_indexAddr hx hy hi hd
theorem ps_indexAddr0N {β : BK} {size len i : Nat} {kd : IntKind} {t e : TypeId} {ag : Bool} [ht : SlT X.P t e] [he : TI X.P e size ag] (hx : s.ev x = some (.own β size 0 len)) (hy : s.ev y = some (.v (.int kd (i : Int))))
    (hi : i < len) (hd : Nat.blt d X.nt = true) : PureStep X H0 ⟨some d, .indexAddr t x y, ty, pos, aft, none⟩ s (s.put d (.ptr β size i 0)) :=
  ps_indexAddr hx hy ⟨by omega, by omega⟩ hd
/-- the same, the index a number from 0 on -/
theorem ps_indexAddrN {β : BK} {size r len i : Nat} {kd : IntKind} {t e : TypeId} {ag : Bool} [ht : SlT X.P t e] [he : TI X.P e size ag] (hx : s.ev x = some (.own β size r len)) (hy : s.ev y = some (.v (.int kd (i : Int))))
    (hi : i < len) (hd : Nat.blt d X.nt = true) : PureStep X H0 ⟨some d, .indexAddr t x y, ty, pos, aft, none⟩ s (s.put d (.ptr β size (i + r) 0)) :=
  ps_indexAddr hx hy ⟨by omega, by omega⟩ hd
theorem ps_indexAddrRN {size len i : Nat} {get : Nat → Nat → D} {kd : IntKind} {t e : TypeId} {ag : Bool} [ht : SlT X.P t e] [he : TI X.P e size ag] (hx : s.ev x = some (.sl size len get)) (hy : s.ev y = some (.v (.int kd (i : Int))))
    (hi : i < len) (hd : Nat.blt d X.nt = true) : PureStep X H0 ⟨some d, .indexAddr t x y, ty, pos, aft, none⟩ s (s.put d (.rp size len get i 0)) :=
  ps_indexAddrR hx hy ⟨by omega, by omega⟩ hd

/-! loads -/
theorem run_load_cell {P : Program} {w : World} {a : Addr} {u : Value} (h : w.cell? a = some u) : (load a).run P w = .ok u w := by simp [h]
theorem run_loadAgg {P : Program} (w : World) (b o n : Nat) (f : Nat → Value) (h : ∀ j, j < n → w.cell? ⟨b, o + j, none⟩ = some (f j)) :
    (loadCells ⟨b, o, none⟩ n).run P w = .ok ((List.range n).map f).toArray w := by
  have := run_loadCells_list (P := P) w ⟨b, o, none⟩ ((List.range n).map f) (fun j v hv => by
    rw [addr_add]
    have hj : j < n := by
      have := (List.getElem?_eq_some_iff.1 hv).1
      simpa using this
    rw [h j hj]
    simp [hj] at hv
    rw [hv])
  simpa using this

theorem BOk.cell {I : Nat → Prop} {w : World} {β : BK} {t : TypeId} {size : Nat} {c : C} (h : BOk I w β t size c) {e f : Nat} (he : e < c.len) (hf : f < size) :
    ∃ u, w.cell? ⟨β.b, β.o + (e * size + f), none⟩ = some u ∧ u.oneCell' = true ∧ Rd I w (c.get e f) u := by
  obtain ⟨cs, h1, h2, h3⟩ := h.2 (by have := h.1; omega)
  obtain ⟨u, hu, ho, hr⟩ := h3 e he f hf
  exact ⟨u, by rw [cell_of_row w β.b _ cs t (0, 0) h1]; exact hu, ho, hr⟩

theorem ps_load {β : BK} {size e f : Nat} {t te : TypeId} {n : Nat} {c : C} {H H1 : List HL} [ht : TI X.P t n false] (hx : s.ev x = some (.ptr β size e f)) (hm : At s.heap (.one β te size c) (.one β te size c) H) (hm0 : At H0 (.one β te size c) (.one β te size c) H1)
    (he : e < c.len) (hf : Nat.blt f size = true) (hd : Nat.blt d X.nt = true) : PureStep X H0 ⟨some d, .load t x, ty, pos, aft, none⟩ s (s.put d (c.get e f)) :=
  ps_of hd fun _ a w hs => by
    have hv : a.eval x = .pointer (some ⟨β.b, β.o + (e * size + f), none⟩) := hs.ev hx
    have hb : BOk _ w β te size c := hs.heap _ hm.mem
    obtain ⟨u, hu, _, hr⟩ := hb.cell he (blt_lt hf)
    have hpos : 0 < β.s := by have := hb.1; omega
    exact ⟨u, fun w' hw => by
      have hcell : w'.cell? ⟨β.b, β.o + (e * size + f), none⟩ = some u := (World.cell?_of_block (w := w) (w' := w') (hw β.b (.inr ⟨_, hm0.mem, hpos, rfl⟩))).trans hu
      simp [execOp, Instr.loadAt, Instr.sureAddr, hv, loadVar, ht.agg, hcell], hr⟩
theorem ps_loadR {size len e f : Nat} {get : Nat → Nat → D} {t : TypeId} {n : Nat} [ht : TI X.P t n false] (hx : s.ev x = some (.rp size len get e f))
    (he : e < len) (hf : Nat.blt f size = true) (hd : Nat.blt d X.nt = true) : PureStep X H0 ⟨some d, .load t x, ty, pos, aft, none⟩ s (s.put d (get e f)) :=
  ps_of hd fun _ a w hs => by
    obtain ⟨g, q, hv, hg, hc⟩ := hs.ev hx
    obtain ⟨u, hu, _, hr⟩ := hc e he f (blt_lt hf)
    exact ⟨u, fun w' hw => by
      have hcell : w'.cell? ⟨g, q + (e * size + f), none⟩ = some u := (World.cell?_of_block (w := w) (w' := w') (hw g (.inl hg))).trans hu
      simp [execOp, Instr.loadAt, Instr.sureAddr, hv, loadVar, ht.agg, hcell], hr⟩

theorem rd_agg {I : Nat → Prop} {w : World} {n : Nat} {g : Nat → D} {F : Nat → Value} (h : ∀ j, j < n → (F j).oneCell' = true ∧ Rd I w (g j) (F j)) : Rd I w (.ag n g) (.agg ((List.range n).map F).toArray) :=
  ⟨_, rfl, by simp, fun i hi => ⟨F i, by simp [hi], (h i hi).1, (h i hi).2⟩⟩

theorem ps_loadAg {β : BK} {size e f : Nat} {t te : TypeId} {n : Nat} {c : C} {H H1 : List HL} [ht : TI X.P t n true] (hx : s.ev x = some (.ptr β size e f)) (hm : At s.heap (.one β te size c) (.one β te size c) H) (hm0 : At H0 (.one β te size c) (.one β te size c) H1)
    (he : e < c.len) (hf : Nat.ble (f + n) size = true) (hd : Nat.blt d X.nt = true) : PureStep X H0 ⟨some d, .load t x, ty, pos, aft, none⟩ s (s.put d (.ag n (fun j => c.get e (j + f)))) :=
  ps_of hd fun _ a w hs => by
    have hv : a.eval x = .pointer (some ⟨β.b, β.o + (e * size + f), none⟩) := hs.ev hx
    have hb : BOk _ w β te size c := hs.heap _ hm.mem
    have hf' := Nat.le_of_ble_eq_true hf
    have hpos : 0 < β.s := by have := hb.1; omega
    have hc : ∀ j, ∃ u, j < n → w.cell? ⟨β.b, β.o + (e * size + f) + j, none⟩ = some u ∧ u.oneCell' = true ∧ Rd _ w (c.get e (j + f)) u := fun j => by
      by_cases hj : j < n
      · obtain ⟨u, h⟩ := hb.cell he (show j + f < size by omega)
        exact ⟨u, fun _ => by rw [show β.o + (e * size + f) + j = β.o + (e * size + (j + f)) by omega]; exact h⟩
      · exact ⟨undef, fun h => absurd h hj⟩
    obtain ⟨F, hF⟩ := Classical.axiomOfChoice hc
    refine ⟨_, fun w' hw => ?_, rd_agg fun j hj => ⟨(hF j hj).2.1, (hF j hj).2.2⟩⟩
    have hl := run_loadAgg (P := X.P) w' β.b (β.o + (e * size + f)) n F fun j hj => (World.cell?_of_block (w := w) (w' := w') (hw β.b (.inr ⟨_, hm0.mem, hpos, rfl⟩))).trans (hF j hj).1
    simp only [execOp, Instr.loadAt, Instr.sureAddr, hv, loadVar, ht.agg, ht.size, hl, Sem.run_bind, Sem.run_pure, Result.andThen_ok, if_true]
theorem ps_loadAgR {size len e f : Nat} {get : Nat → Nat → D} {t : TypeId} {n : Nat} [ht : TI X.P t n true] (hx : s.ev x = some (.rp size len get e f))
    (he : e < len) (hf : Nat.ble (f + n) size = true) (hd : Nat.blt d X.nt = true) : PureStep X H0 ⟨some d, .load t x, ty, pos, aft, none⟩ s (s.put d (.ag n (fun j => get e (j + f)))) :=
  ps_of hd fun _ a w hs => by
    obtain ⟨g, q, hv, hg, hcc⟩ := hs.ev hx
    have hf' := Nat.le_of_ble_eq_true hf
    have hc : ∀ j, ∃ u, j < n → w.cell? ⟨g, q + (e * size + f) + j, none⟩ = some u ∧ u.oneCell' = true ∧ Rd _ w (get e (j + f)) u := fun j => by
      by_cases hj : j < n
      · obtain ⟨u, h⟩ := hcc e he (j + f) (show j + f < size by omega)
        exact ⟨u, fun _ => by rw [show q + (e * size + f) + j = q + (e * size + (j + f)) by omega]; exact h⟩
      · exact ⟨undef, fun h => absurd h hj⟩
    obtain ⟨F, hF⟩ := Classical.axiomOfChoice hc
    refine ⟨_, fun w' hw => ?_, rd_agg fun j hj => ⟨(hF j hj).2.1, (hF j hj).2.2⟩⟩
    have hl := run_loadAgg (P := X.P) w' g (q + (e * size + f)) n F fun j hj => (World.cell?_of_block (w := w) (w' := w') (hw g (.inl hg))).trans (hF j hj).1
    simp only [execOp, Instr.loadAt, Instr.sureAddr, hv, loadVar, ht.agg, ht.size, hl, Sem.run_bind, Sem.run_pure, Result.andThen_ok, if_true]
end

end Go.Proofs.Ytgkcmjmofcekmaa.Sx
