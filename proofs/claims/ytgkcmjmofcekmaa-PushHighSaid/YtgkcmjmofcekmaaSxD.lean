/- The walk's rules, more: literals, slicing, append, bits, small builtins. Plain laws over any program. -/
import Derived.Test.YtgkcmjmofcekmaaSxC
namespace Go.Proofs.Ytgkcmjmofcekmaa.Sx
open Go
set_option linter.unusedVariables false
set_option linter.unusedSimpArgs false

section
variable {X : Cx} {H0 : List HL} {s : St} {d : Tmp} {ty : TypeId} {pos : String} {aft : Array Edge} {gd : Option (Nat × Bool)} {x y z : Operand} {q : D}

/-! ### small ones -/
class IntT (P : Program) (t : TypeId) (k : outParam IntKind) : Prop where
  h : P.underlying t = some (.int k)
theorem ps_convI {m : Int} {src dst : TypeId} [h1 : IntT X.P src .i64] [h2 : IntT X.P dst .i64] (hx : s.ev x = some (.v (.int .i64 m))) (hr : InI m) (hd : Nat.blt d X.nt = true) :
    PureStep X H0 ⟨some d, .convert src dst x, ty, pos, aft, none⟩ s (s.put d (.v (.int .i64 m))) := by
  have h := ps_conv (H0 := H0) (ty := ty) (pos := pos) (aft := aft) hx hd h1.h h2.h
  rw [IntWalk.i64_in _ hr] at h
  exact h
theorem ps_convK {m : Int} {k k2 : IntKind} {src dst : TypeId} [h1 : IntT X.P src k] [h2 : IntT X.P dst k2] (hx : s.ev x = some (.v (.int k m))) (hd : Nat.blt d X.nt = true) :
    PureStep X H0 ⟨some d, .convert src dst x, ty, pos, aft, none⟩ s (s.put d (.v (.int k2 (k2.wrap m)))) := ps_conv hx hd h1.h h2.h
theorem ps_min {m n : Int} {kd : IntKind} {ats : Array TypeId} (hx : s.ev x = some (.v (.int kd m))) (hy : s.ev y = some (.v (.int kd n))) (hd : Nat.blt d X.nt = true) :
    PureStep X H0 ⟨some d, .call { callee := .builtin .min, args := #[x, y], argTypes := ats }, ty, pos, aft, none⟩ s (s.put d (.v (.int kd (min m n)))) :=
  ps_of hd fun _ a _ hs => ⟨.int kd (min m n), fun w' _ => by
    have e1 : a.eval x = .int kd m := hs.ev hx
    have e2 : a.eval y = .int kd n := hs.ev hy
    have e : (if n < m then n else m) = min m n := by omega
    simp [execOp, resolve, invoke, builtin, Builtin.min_, Builtin.min2, e1, e2, e], rfl⟩
theorem ps_max {m n : Int} {kd : IntKind} {ats : Array TypeId} (hx : s.ev x = some (.v (.int kd m))) (hy : s.ev y = some (.v (.int kd n))) (hd : Nat.blt d X.nt = true) :
    PureStep X H0 ⟨some d, .call { callee := .builtin .max, args := #[x, y], argTypes := ats }, ty, pos, aft, none⟩ s (s.put d (.v (.int kd (max m n)))) :=
  ps_of hd fun _ a _ hs => ⟨.int kd (max m n), fun w' _ => by
    have e1 : a.eval x = .int kd m := hs.ev hx
    have e2 : a.eval y = .int kd n := hs.ev hy
    have e : (if m < n then n else m) = max m n := by omega
    simp [execOp, resolve, invoke, builtin, Builtin.max_, Builtin.max2, e1, e2, e], rfl⟩
theorem ps_nilCheck {β : BK} {size e f : Nat} (hx : s.ev x = some (.ptr β size e f)) (hd : Nat.blt d X.nt = true) : PureStep X H0 ⟨some d, .nilCheck x, ty, pos, aft, none⟩ s (s.put d (.ptr β size e f)) :=
  ps_of hd fun _ a _ hs => by
    have hv := hs.ev hx
    refine ⟨a.eval x, fun w' _ => ?_, hv⟩
    simp only [Rd] at hv
    simp [execOp, hv]
section bits
variable {m n : Int} {kd k2 : IntKind} {xt yt : TypeId}
theorem ps_bin2 {op : BinOp} {r : Value} (hx : s.ev x = some (.v (.int kd m))) (hy : s.ev y = some (.v (.int k2 n))) (hd : Nat.blt d X.nt = true)
    (hr : ∀ w, (binOp op xt (.int kd m) (.int k2 n)).run X.P w = .ok r w) : PureStep X H0 ⟨some d, .binOp op xt x y yt, ty, pos, aft, none⟩ s (s.put d (.v r)) :=
  ps_of hd fun _ a _ hs => ⟨r, fun w' _ => by
    have e1 : a.eval x = .int kd m := hs.ev hx
    have e2 : a.eval y = .int k2 n := hs.ev hy
    have e3 : (eqGuard op xt x y (.int kd m) (.int k2 n)).run X.P w' = .ok () w' := by unfold eqGuard; cases op <;> rfl
    simp only [execOp, e1, e2, Sem.run_bind, e3, Result.andThen_ok, hr, Sem.run_pure], rfl⟩
theorem ps_shr (hx : s.ev x = some (.v (.int kd m))) (hy : s.ev y = some (.v (.int k2 n))) (hd : Nat.blt d X.nt = true) (h0 : 0 ≤ n) :
    PureStep X H0 ⟨some d, .binOp .shr xt x y yt, ty, pos, aft, none⟩ s (s.put d (.v (.int kd (m.fdiv (2 ^ min n.toNat kd.bits))))) :=
  ps_bin2 hx hy hd fun w => by simp [binOp, Op.shift, show ¬ n < 0 by omega]
theorem ps_shl (hx : s.ev x = some (.v (.int kd m))) (hy : s.ev y = some (.v (.int k2 n))) (hd : Nat.blt d X.nt = true) (h0 : 0 ≤ n) :
    PureStep X H0 ⟨some d, .binOp .shl xt x y yt, ty, pos, aft, none⟩ s (s.put d (.v (.int kd (kd.wrap (m * 2 ^ min n.toNat kd.bits))))) :=
  ps_bin2 hx hy hd fun w => by simp [binOp, Op.shift, show ¬ n < 0 by omega]
def bitsOf (op : BinOp) (k : IntKind) (x y : Int) : Int :=
  let a := BitVec.ofInt k.bits x
  let b := BitVec.ofInt k.bits y
  k.wrap ((match op with | .and => a &&& b | .or => a ||| b | .xor => a ^^^ b | _ => a &&& ~~~b).toNat : Int)
theorem ps_and (hx : s.ev x = some (.v (.int kd m))) (hy : s.ev y = some (.v (.int kd n))) (hd : Nat.blt d X.nt = true) :
    PureStep X H0 ⟨some d, .binOp .and xt x y yt, ty, pos, aft, none⟩ s (s.put d (.v (.int kd (bitsOf .and kd m n)))) :=
  ps_bin hx hy hd fun w => by simp [binOp, Op.intBits, bitsOf]
theorem ps_or (hx : s.ev x = some (.v (.int kd m))) (hy : s.ev y = some (.v (.int kd n))) (hd : Nat.blt d X.nt = true) :
    PureStep X H0 ⟨some d, .binOp .or xt x y yt, ty, pos, aft, none⟩ s (s.put d (.v (.int kd (bitsOf .or kd m n)))) :=
  ps_bin hx hy hd fun w => by simp [binOp, Op.intBits, bitsOf]
theorem ps_xor (hx : s.ev x = some (.v (.int kd m))) (hy : s.ev y = some (.v (.int kd n))) (hd : Nat.blt d X.nt = true) :
    PureStep X H0 ⟨some d, .binOp .xor xt x y yt, ty, pos, aft, none⟩ s (s.put d (.v (.int kd (bitsOf .xor kd m n)))) :=
  ps_bin hx hy hd fun w => by simp [binOp, Op.intBits, bitsOf]
theorem ps_andNot (hx : s.ev x = some (.v (.int kd m))) (hy : s.ev y = some (.v (.int kd n))) (hd : Nat.blt d X.nt = true) :
    PureStep X H0 ⟨some d, .binOp .andNot xt x y yt, ty, pos, aft, none⟩ s (s.put d (.v (.int kd (bitsOf .andNot kd m n)))) :=
  ps_bin hx hy hd fun w => by simp [binOp, Op.intBits, bitsOf]
end bits

/-! ### slicing -/
/-- A bound that is left out, or a number. -/
inductive Bd (s : St) : Option Operand → Nat → Nat → Prop
  | no (z : Nat) : Bd s none z z
  | nat (x : Operand) (kd : IntKind) (n z : Nat) (h : s.ev x = some (.v (.int kd (n : Int)))) : Bd s (some x) n z
  | int (x : Operand) (kd : IntKind) (i : Int) (z : Nat) (h : s.ev x = some (.v (.int kd i))) (h0 : 0 ≤ i) : Bd s (some x) i.toNat z
theorem Bd.val {s : St} {o : Option Operand} {n z : Nat} (h : Bd s o n z) {I : Nat → Prop} {a : Act} {w : World} (hs : Sat X I s a w) : (o = none ∧ n = z) ∨ ∃ kd, o.map a.eval = some (.int kd (n : Int)) := by
  cases h with
  | no => exact .inl ⟨rfl, rfl⟩
  | nat x kd _ _ h => exact .inr ⟨kd, by
      have := hs.ev h
      simp only [Rd] at this
      simp [this]⟩
  | int x kd i _ h h0 => exact .inr ⟨kd, by
      have := hs.ev h
      simp only [Rd] at this
      simp [this]; omega⟩

theorem run_slicing {P : Program} {w : World} {t e : TypeId} {size : Nat} {ag : Bool} (ht : P.underlying t = some (.slice e)) (he : TI P e size ag) {a : Option Addr} {len cap l h : Nat} {lo hi : Option Value}
    (hlo : (lo = none ∧ l = 0) ∨ ∃ kd, lo = some (.int kd (l : Int))) (hhi : (hi = none ∧ h = len) ∨ ∃ kd, hi = some (.int kd (h : Int))) (h1 : l ≤ h) (h2 : h ≤ cap) :
    (Instr.sliceAt t (.slice a len cap) lo hi none).run P w = .ok (.slice (if cap = l then a else a.map (·.add (l * size))) (h - l) (cap - l)) w := by
  have h3 : ¬ cap < h := by omega
  have h4 : ¬ h < l := by omega
  rcases hlo with ⟨rfl, rfl⟩ | ⟨k1, rfl⟩ <;> rcases hhi with ⟨rfl, rfl⟩ | ⟨k2, rfl⟩ <;>
    simp [Instr.sliceAt, Instr.slice, run_underlying ht, Instr.sliceBounds, Instr.sliceBound, asIntOf, he.size, h1, h2, h3, h4]

theorem ps_slice {β : BK} {size r len l h : Nat} {t e : TypeId} {ag : Bool} {lo hi : Option Operand} [ht : SlT X.P t e] [he : TI X.P e size ag] (hx : s.ev x = some (.own β size r len)) (hlo : Bd s lo l 0) (hhi : Bd s hi h len)
    (h1 : l ≤ h) (h2 : h ≤ len) (hd : Nat.blt d X.nt = true) : PureStep X H0 ⟨some d, .slice t x lo hi none, ty, pos, aft, none⟩ s (s.put d (.own β size (l + r) (h - l))) :=
  ps_of hd fun _ a _ hs => by
    obtain ⟨ad, cap, hv, g1, g2, g3, g4⟩ := hs.ev hx
    have b1 : (lo.map a.eval = none ∧ l = 0) ∨ ∃ kd, lo.map a.eval = some (.int kd (l : Int)) := (hlo.val hs).imp (fun ⟨e1, e2⟩ => ⟨by rw [e1]; rfl, e2⟩) id
    have b2 : (hi.map a.eval = none ∧ h = len) ∨ ∃ kd, hi.map a.eval = some (.int kd (h : Int)) := (hhi.val hs).imp (fun ⟨e1, e2⟩ => ⟨by rw [e1]; rfl, e2⟩) id
    refine ⟨.slice (if cap = l then ad else ad.map (·.add (l * size))) (h - l) (cap - l), fun w' _ => by simp only [execOp, hv, Option.map_none, run_slicing ht.h he b1 b2 h1 (show h ≤ cap by omega), Sem.run_bind, Result.andThen_ok, Sem.run_pure], _, cap - l, rfl, by omega, by omega, by omega, fun h0 => ?_⟩
    rw [if_neg (by omega), g4 (by omega)]
    simp only [Option.map_some, addr_add]
    rw [show β.o + r * size + l * size = β.o + (l + r) * size by rw [Nat.add_mul]; omega]
theorem ps_sliceR {size len l h : Nat} {get : Nat → Nat → D} {t e : TypeId} {ag : Bool} {lo hi : Option Operand} [ht : SlT X.P t e] [he : TI X.P e size ag] (hx : s.ev x = some (.sl size len get)) (hlo : Bd s lo l 0) (hhi : Bd s hi h len)
    (h1 : l ≤ h) (h2 : h ≤ len) (hd : Nat.blt d X.nt = true) : PureStep X H0 ⟨some d, .slice t x lo hi none, ty, pos, aft, none⟩ s (s.put d (.sl size (h - l) fun e f => get (e + l) f)) :=
  ps_of hd fun _ a _ hs => by
    obtain ⟨ad, cap, hv, g1, g2, g3⟩ := hs.ev hx
    have b1 : (lo.map a.eval = none ∧ l = 0) ∨ ∃ kd, lo.map a.eval = some (.int kd (l : Int)) := (hlo.val hs).imp (fun ⟨e1, e2⟩ => ⟨by rw [e1]; rfl, e2⟩) id
    have b2 : (hi.map a.eval = none ∧ h = len) ∨ ∃ kd, hi.map a.eval = some (.int kd (h : Int)) := (hhi.val hs).imp (fun ⟨e1, e2⟩ => ⟨by rw [e1]; rfl, e2⟩) id
    refine ⟨.slice (if cap = l then ad else ad.map (·.add (l * size))) (h - l) (cap - l), fun w' _ => by simp only [execOp, hv, Option.map_none, run_slicing ht.h he b1 b2 h1 (show h ≤ cap by omega), Sem.run_bind, Result.andThen_ok, Sem.run_pure], _, cap - l, rfl, by omega, by omega, fun h0 => ?_⟩
    obtain ⟨g, q, ha, hg, hc⟩ := g3 (by omega)
    rw [if_neg (by omega), ha]
    refine ⟨g, q + l * size, by simp [addr_add], hg, fun e he f hf => ?_⟩
    obtain ⟨u, hu⟩ := hc (e + l) (by omega) f hf
    exact ⟨u, by rw [show q + l * size + (e * size + f) = q + ((e + l) * size + f) by rw [Nat.add_mul]; omega]; exact hu⟩
/-- x[:0:0] -/
theorem ps_slice00 {n : Nat} {t e : TypeId} {k1 k2 : IntKind} {size : Nat} {ag : Bool} [ht : SlT X.P t e] [he : TI X.P e size ag] (hx : s.ev x = some q) (hl : LenOf q n) (hy : s.ev y = some (.v (.int k1 0))) (hz : s.ev z = some (.v (.int k2 0))) (hd : Nat.blt d X.nt = true) :
    PureStep X H0 ⟨some d, .slice t x none (some y) (some z), ty, pos, aft, none⟩ s (s.put d .e0) :=
  ps_of hd fun _ a _ hs => by
    obtain ⟨ad, c, hv⟩ := hl.read (hs.ev hx)
    have e1 : a.eval y = .int k1 0 := hs.ev hy
    have e2 : a.eval z = .int k2 0 := hs.ev hz
    refine ⟨.slice ad 0 0, fun w' _ => ?_, ad, rfl⟩
    have hc : (0 : Int) ≤ (c : Int) := by omega
    simp [execOp, hv, Instr.sliceAt, Instr.slice, run_underlying ht.h, Instr.sliceBounds, Instr.sliceBound, asIntOf, he.size, e1, e2, hc]

/-! ### literals -/
theorem nth_set {l : List D} {i j : Nat} {q : D} (h : i < l.length) : nth (l.set i q) j = if j = i then q else nth l j := by
  induction l generalizing i j with
  | nil => simp at h
  | cons a l ih =>
    cases i with
    | zero => cases j <;> simp [nth]
    | succ i =>
      cases j with
      | zero => simp [nth]
      | succ j =>
        show nth (l.set i q) j = _
        rw [ih (by simpa using h)]
        simp [nth]
/-- The cells of q put into l at place i. -/
def putAt (l : List D) (i : Nat) : List D → List D
  | [] => l
  | q :: r => putAt (l.set i q) (i + 1) r
theorem length_putAt : ∀ (r : List D) (l : List D) (i : Nat), (putAt l i r).length = l.length
  | [], _, _ => rfl
  | q :: r, l, i => by rw [putAt, length_putAt r]; simp

/-- the cells of a part -/
inductive Part (s : St) (x : Operand) : List D → Prop
  | one (q : D) (h : s.ev x = some q) (hq : q.one = true) : Part s x [q]
  | ag (n : Nat) (g : Nat → D) (h : s.ev x = some (.ag n g)) : Part s x ((List.range n).map g)

theorem Part.cells {x : Operand} {l : List D} (h : Part s x l) {I : Nat → Prop} {a : Act} {w : World} (hs : Sat X I s a w) :
    (a.eval x).cells.size = l.length ∧ ∀ j, j < l.length → ∃ u, (a.eval x).cells[j]? = some u ∧ u.oneCell' = true ∧ Rd I w (nth l j) u := by
  cases h with
  | one q h hq =>
    have hr := hs.ev h
    have ho := D.one_ok hq hr
    rw [cells_one ho]
    exact ⟨rfl, fun j hj => by
      have : j = 0 := by simp at hj; omega
      subst this
      exact ⟨a.eval x, rfl, ho, hr⟩⟩
  | ag n g h =>
    obtain ⟨vs, hv, hsz, hr⟩ := hs.ev h
    rw [hv]
    refine ⟨by simp [Value.cells, hsz], fun j hj => ?_⟩
    have hj' : j < n := by simpa using hj
    obtain ⟨u, h1, h2, h3⟩ := hr j hj'
    refine ⟨u, h1, h2, ?_⟩
    rw [nth_lt (by simpa using hj')]
    simpa [hj'] using h3

/-- Cells that read as the list. -/
def Cells (I : Nat → Prop) (w : World) (cs : Array Value) (l : List D) : Prop := cs.size = l.length ∧ ∀ j, j < l.length → ∃ u, cs[j]? = some u ∧ u.oneCell' = true ∧ Rd I w (nth l j) u

theorem foldl_put (I : Nat → Prop) (w : World) (o : Nat) : ∀ (vs : List Value) (r : List D) (k : Nat) (cs : Array Value) (l : List D), Cells I w cs l → vs.length = r.length → o + k + r.length ≤ l.length →
    (∀ j, j < r.length → ∃ u, vs[j]? = some u ∧ u.oneCell' = true ∧ Rd I w (nth r j) u) →
    Cells I w ((vs.zipIdx k).foldl (fun cs (p : Value × Nat) => cs.setIfInBounds (o + p.2) p.1) cs) (putAt l (o + k) r)
  | [], [], _, _, _, h, _, _, _ => h
  | [], _ :: _, _, _, _, _, h, _, _ => by simp at h
  | _ :: _, [], _, _, _, _, h, _, _ => by simp at h
  | v :: vs, q :: r, k, cs, l, h, hl, hle, hv => by
    obtain ⟨u, hu, ho, hr⟩ := hv 0 (by simp)
    have e : v = u := by simpa using hu
    subst e
    simp only [List.zipIdx_cons, List.foldl_cons, putAt]
    have hlt : o + k < l.length := by simp at hle; omega
    have := foldl_put I w o vs r (k + 1) (cs.setIfInBounds (o + k) v) (l.set (o + k) q) ⟨by simp [h.1], fun j hj => by
      rw [Array.getElem?_setIfInBounds, nth_set hlt]
      by_cases hjo : o + k = j
      · subst hjo
        rw [if_pos rfl, if_pos rfl, if_pos (by rw [h.1]; exact hlt)]
        exact ⟨v, rfl, ho, hr⟩
      · rw [if_neg hjo, if_neg (fun e => hjo e.symm)]
        exact h.2 j (by simpa using hj)⟩ (by simpa using hl) (by simp at hle ⊢; omega) (fun j hj => by
      have := hv (j + 1) (by simp; omega)
      simpa [nth] using this)
    simpa [Nat.add_assoc] using this

/-- The parts of a literal put in their places, one behind the other. -/
inductive Parts (s : St) (place : Nat → Nat → Nat → Prop) : List (Nat × Operand) → List D → List D → Prop
  | nil (l : List D) : Parts s place [] l l
  | cons (i : Nat) (x : Operand) (r : List (Nat × Operand)) (l l' : List D) (off size : Nat) (c : List D) (hp : place i off size) (hc : Part s x c) (hs : Nat.beq c.length size = true) (hle : Nat.ble (off + size) l.length = true) (h : Parts s place r (putAt l off c) l') :
      Parts s place ((i, x) :: r) l l'

theorem Parts.fill {place : Nat → Nat → Nat → Prop} {pl : Nat → Option (Nat × Nat)} (hpl : ∀ i off size, place i off size → pl i = some (off, size)) {ps : List (Nat × Operand)} {l l' : List D} (h : Parts s place ps l l')
    {I : Nat → Prop} {a : Act} {w : World} (hs : Sat X I s a w) : ∀ {cs : Array Value}, Cells I w cs l → ∃ cs', Instr.fill pl cs (ps.map fun p => (p.1, a.eval p.2)) = some cs' ∧ Cells I w cs' l' := by
  induction h with
  | nil l => exact fun {cs} h => ⟨cs, rfl, h⟩
  | cons i x r l l' off size c hp hc hsz hle _ ih =>
    intro cs h
    obtain ⟨h1, h2⟩ := hc.cells hs
    have hsz' : c.length = size := Nat.eq_of_beq_eq_true hsz
    have hle' := Nat.le_of_ble_eq_true hle
    have hf := foldl_put I w off (a.eval x).cells.toList c 0 cs l h (by simpa using h1) (by omega) (fun j hj => by simpa using h2 j hj)
    simp only [Nat.add_zero] at hf
    obtain ⟨cs', h3, h4⟩ := ih hf
    refine ⟨cs', ?_, h4⟩
    simp only [List.map_cons, Instr.fill, hpl i off size hp]
    rw [if_neg (by simp [h1, hsz']; have := h.1; omega)]
    rw [← Array.foldl_toList, Array.toList_zipIdx]
    exact h3

def FdP (P : Program) (t : TypeId) (i off size : Nat) : Prop := ∃ ag, FdT P t i off size ag
theorem FdP.of {P : Program} {t : TypeId} {i off size : Nat} {ag : Bool} [h : FdT P t i off size ag] : FdP P t i off size := ⟨ag, h⟩

theorem mapM_run {α β : Type} {P : Program} {w : World} (g : α → Sem β) (h : α → β) : ∀ l : List α, (∀ x, x ∈ l → (g x).run P w = .ok (h x) w) → (l.mapM g).run P w = .ok (l.map h) w
  | [], _ => by simp
  | x :: l, hx => by
    have h1 := hx x (by simp)
    have h2 := mapM_run g h l (fun y hy => hx y (by simp [hy]))
    simp [List.mapM_cons, h1, h2]
theorem mapM_runA {α β : Type} {P : Program} {w : World} (g : α → Sem β) (h : α → β) (l : Array α) (hx : ∀ x, x ∈ l → (g x).run P w = .ok (h x) w) : (l.mapM g).run P w = .ok (l.map h) w := by
  obtain ⟨l⟩ := l
  have := mapM_run g h l (fun x hx' => hx x (by simpa using hx'))
  simp [this]

/-- All fields of a struct have a size. -/
class AllF (P : Program) (t : TypeId) : Prop where
  h : ∃ fs, P.underlying t = some (.struct fs) ∧ ∃ f : Field → Nat, ∀ x, x ∈ fs → ∀ w, (sizeOf x.type).run P w = .ok (f x) w
theorem AllF.of {P : Program} {t : TypeId} {fs : Array Field} (h1 : P.underlying t = some (.struct fs)) (h2 : fs.toList.all (fun x => (P.info? x.type).isSome) = true) : AllF P t where
  h := ⟨fs, h1, fun x => ((P.info? x.type).map (·.size)).getD 0, fun x hx w => by
    have := List.all_eq_true.1 h2 x (by simpa using hx)
    cases hi : P.info? x.type with
    | none => simp [hi] at this
    | some i => simp [sizeOf, typeInfo, hi]⟩

theorem ps_build {t : TypeId} {size bytes : Nat} {zv : Value} {ps : List (Nat × Operand)} {l' : List D} [hz : ZI X.P t size bytes zv] [hf : AllF X.P t] (hp : Parts s (FdP X.P t) ps (zv.cells.toList.map D.v) l') (hd : Nat.blt d X.nt = true) :
    PureStep X H0 ⟨some d, .build t ps.toArray, ty, pos, aft, none⟩ s (s.put d (.ag size (nth l'))) :=
  ps_of hd fun I a w hs => by
    obtain ⟨i, h1, h2, h3, h4, h5, h6⟩ := hz.h
    obtain ⟨fs, g1, f, g2⟩ := hf.h
    have hplace : ∀ i off sz, FdP X.P t i off sz → (fun i => (fs.map fun x => (x.offset, f x))[i]?) i = some (off, sz) := by
      rintro i off sz ⟨ag, ⟨fs', fd, e1, e2, e3, e4, _⟩⟩
      rw [g1] at e1
      cases e1
      have e5 := g2 fd (Array.mem_of_getElem? e2) w
      rw [e4 w] at e5
      have e6 : sz = f fd := by injection e5
      simp [e2, e3, e6]
    have hzc : Cells I w zv.cells (zv.cells.toList.map D.v) := ⟨by simp, fun j hj => by
      have hj' : j < zv.cells.size := by simpa using hj
      refine ⟨zv.cells[j], by simp [hj'], h6 _ (by simp), ?_⟩
      rw [nth_lt hj]
      simp [hj', Rd]⟩
    obtain ⟨cs', e1, e2⟩ := hp.fill hplace hs hzc
    have hlen : l'.length = size := by
      have : ∀ {ps : List (Nat × Operand)} {l l' : List D}, Parts s (FdP X.P t) ps l l' → l'.length = l.length := by
        intro ps l l' h
        induction h with
        | nil => rfl
        | cons _ _ _ _ _ _ _ _ _ _ _ _ _ ih => rw [ih, length_putAt]
      rw [this hp]
      simpa using h5
    refine ⟨.agg cs', fun w' _ => ?_, cs', rfl, by rw [e2.1, hlen], fun j hj => e2.2 j (by omega)⟩
    have hm := mapM_runA (P := X.P) (w := w') (fun x : Field => do Pure.pure (x.offset, ← sizeOf x.type)) (fun x => (x.offset, f x)) fs (fun x hx => by simp [g2 x hx w'])
    simp only [execOp, Instr.build, zeroValue, typeInfo, Sem.run_bind, run_program, Result.andThen_ok, h1, h2, Sem.run_pure, run_underlying g1, hm]
    have e3 : (Array.map (fun x : Nat × Operand => (x.1, a.eval x.2)) ps.toArray).toList = ps.map fun p => (p.1, a.eval p.2) := by simp
    rw [e3, e1]
    rfl
theorem ps_buildA {t e : TypeId} {n esz size bytes : Nat} {ag : Bool} {zv : Value} {ps : List (Nat × Operand)} {l' : List D} [hz : ZI X.P t size bytes zv] [hf : ArT X.P t n e] [he : TI X.P e esz ag] (hp : Parts s (fun i off sz => off = i * esz ∧ sz = esz) ps (zv.cells.toList.map D.v) l') (hd : Nat.blt d X.nt = true) :
    PureStep X H0 ⟨some d, .build t ps.toArray, ty, pos, aft, none⟩ s (s.put d (.ag size (nth l'))) :=
  ps_of hd fun I a w hs => by
    obtain ⟨i, h1, h2, h3, h4, h5, h6⟩ := hz.h
    have hplace : ∀ i off sz, (off = i * esz ∧ sz = esz) → (fun i => some (i * esz, esz)) i = some (off, sz) := by
      rintro i off sz ⟨rfl, rfl⟩; rfl
    have hzc : Cells I w zv.cells (zv.cells.toList.map D.v) := ⟨by simp, fun j hj => by
      have hj' : j < zv.cells.size := by simpa using hj
      refine ⟨zv.cells[j], by simp [hj'], h6 _ (by simp), ?_⟩
      rw [nth_lt hj]
      simp [hj', Rd]⟩
    obtain ⟨cs', e1, e2⟩ := hp.fill hplace hs hzc
    have hlen : l'.length = size := by
      have : ∀ {ps : List (Nat × Operand)} {l l' : List D}, Parts s (fun i off sz => off = i * esz ∧ sz = esz) ps l l' → l'.length = l.length := by
        intro ps l l' h
        induction h with
        | nil => rfl
        | cons _ _ _ _ _ _ _ _ _ _ _ _ _ ih => rw [ih, length_putAt]
      rw [this hp]
      simpa using h5
    refine ⟨.agg cs', fun w' _ => ?_, cs', rfl, by rw [e2.1, hlen], fun j hj => e2.2 j (by omega)⟩
    simp only [execOp, Instr.build, zeroValue, typeInfo, Sem.run_bind, run_program, Result.andThen_ok, h1, h2, Sem.run_pure, run_underlying hf.h, he.size]
    have e3 : (Array.map (fun x : Nat × Operand => (x.1, a.eval x.2)) ps.toArray).toList = ps.map fun p => (p.1, a.eval p.2) := by simp
    rw [e3, e1]
    rfl

def flat (size : Nat) (c : C) : List D := (List.range c.len).flatMap fun e => (List.range size).map (c.get e)
theorem nth_append_left {l l' : List D} {i : Nat} (h : i < l.length) : nth (l ++ l') i = nth l i := by
  rw [nth_lt h, nth_lt (by simp; omega)]
  simp [List.getD_eq_getElem?_getD, List.getElem?_append_left h]
theorem nth_append_right {l l' : List D} {i : Nat} : nth (l ++ l') (l.length + i) = nth l' i := by
  induction l with
  | nil => simp
  | cons a l ih =>
    rw [List.length_cons, show l.length + 1 + i = (l.length + i) + 1 by omega]
    exact ih
theorem length_flats {size : Nat} (F : Nat → Nat → D) : ∀ n, ((List.range n).flatMap fun e => (List.range size).map (F e)).length = n * size
  | 0 => by simp
  | n + 1 => by rw [List.range_succ, List.flatMap_append, List.length_append, length_flats F n]; simp [Nat.add_mul]
theorem nth_flat {size : Nat} {c : C} {e f : Nat} (he : e < c.len) (hf : f < size) : nth (flat size c) (e * size + f) = c.get e f := by
  unfold flat
  generalize c.len = n at he
  induction n with
  | zero => omega
  | succ n ih =>
    rw [List.range_succ, List.flatMap_append]
    have hl := length_flats (size := size) c.get n
    by_cases h : e < n
    · rw [nth_append_left]
      · exact ih h
      · rw [hl]
        have := le_cells (s := n) (size := size) (e := e) (f := f + 1) h (by omega)
        omega
    · have e1 : e = n := by omega
      subst e1
      have := nth_append_right (l := (List.range e).flatMap fun e => (List.range size).map (c.get e)) (l' := List.flatMap (fun e => (List.range size).map (c.get e)) [e]) (i := f)
      rw [hl] at this
      rw [this]
      simp only [List.flatMap_cons, List.flatMap_nil, List.append_nil]
      rw [nth_lt (by simpa using hf)]
      simp [hf]
theorem length_flat (size : Nat) (c : C) : (flat size c).length = c.len * size := length_flats c.get c.len

/-- A literal slice: what it holds is given by hand, the parts must be that. -/
theorem ef_buildSlice (c : C) {t e : TypeId} {size bytes n : Nat} {zv : Value} {ps : List (Nat × Operand)} {l' : List D} [ht : SlT X.P t e] [hz : ZI X.P e size bytes zv]
    (hn : Nat.ble (n * size) 16777216 = true) (hp : Parts s (fun i off sz => off = i * size ∧ sz = size) ps ((List.range (n * size)).map fun j => D.v (zv.cells.toList.getD (j % size) undef)) l') (hc : flat size c = l') (hlen : c.len = n) (hs0 : Nat.blt 0 size = true)
    (hd : Nat.blt d X.nt = true) :
    Eff X ⟨some d, .buildSlice t n ps.toArray, ty, pos, aft, gd⟩ s [] (fun s2 => ∃ β : BK, s2 = ⟨(d, .own β size 0 n) :: s.env, .one β e size c :: s.heap⟩) := fun I a w hs Q => by
  obtain ⟨i, h1, h2, h3, h4, h5, h6⟩ := hz.h
  have hs0' := blt_lt hs0
  have hn' := Nat.le_of_ble_eq_true hn
  have hzc : Cells I w ((Array.range (n * size)).map (zv.cells[· % zv.cells.size]!)) ((List.range (n * size)).map fun j => D.v (zv.cells.toList.getD (j % size) undef)) := ⟨by simp, fun j hj => by
    have hj' : j < n * size := by simpa using hj
    have hm : j % size < zv.cells.size := by rw [h5]; exact Nat.mod_lt _ hs0'
    refine ⟨zv.cells[j % size], ?_, h6 _ (by simp), ?_⟩
    · have hm' : zv.cells[j % size]! = zv.cells[j % size] := getElem!_pos zv.cells (j % size) hm
      simp [hj', h5, hm']
    · rw [nth_lt hj]
      simp [hj', Rd, hm]⟩
  obtain ⟨cs', e1, e2⟩ := hp.fill (pl := fun i => some (i * size, size)) (by rintro i off sz ⟨rfl, rfl⟩; rfl) hs hzc
  have hl' : l'.length = n * size := by rw [← hc, length_flat, hlen]
  have hrun : (execOp a.eval ⟨some d, .buildSlice t n ps.toArray, ty, pos, aft, gd⟩).run X.P w = .ok (.value (.slice (some ⟨w.heap.size, 0, none⟩) n n)) (w.alloc (.cells cs' e)) := by
    have e3 : (Array.map (fun x : Nat × Operand => (x.1, a.eval x.2)) ps.toArray).toList = ps.map fun p => (p.1, a.eval p.2) := by simp
    simp only [execOp, Instr.buildSlice, Sem.run_bind, run_underlying ht.h, Result.andThen_ok, sizeOf, typeInfo, run_program, h1, Sem.run_pure, h3]
    rw [if_neg (by omega)]
    by_cases h0 : n * size = 0
    · rw [h0] at e1
      have e0 : (Array.range 0).map (zv.cells[· % zv.cells.size]!) = #[] := Array.eq_empty_of_size_eq_zero (by simp)
      rw [e0] at e1
      have e4 : (Array.range 0).map (fun _ : Nat => (default : Value)) = #[] := Array.eq_empty_of_size_eq_zero (by simp)
      simp [h0, e4, e1, newRow]
    · simp only [h0, if_false, zeroValue, typeInfo, Sem.run_bind, run_program, h1, h2, Sem.run_pure, Result.andThen_ok, e3, e1]
      simp [newRow]
  refine wp_val hrun ⟨Same.alloc w _ _, _, ⟨⟨w.heap.size, 0, n⟩, rfl⟩, ?_⟩
  refine (hs.fresh cs' e n size c (by rw [e2.1, hl']) (by omega) fun e' he' f hf => ?_).put (blt_lt hd) ?_
  · rw [hlen] at he'
    have hlt := le_cells (s := n) (size := size) (e := e') (f := f + 1) he' (by omega)
    obtain ⟨u, g1, g2, g3⟩ := e2.2 (e' * size + f) (by omega)
    rw [← hc, nth_flat (by omega) hf] at g3
    exact ⟨u, g1, g2, g3⟩
  · refine ⟨some ⟨w.heap.size, 0, none⟩, n, rfl, Nat.le_refl _, ?_, by simp, fun _ => by simp⟩
    have : n * 1 ≤ n * size := Nat.mul_le_mul_left _ hs0'
    unfold maxLen
    omega
end
end Go.Proofs.Ytgkcmjmofcekmaa.Sx
