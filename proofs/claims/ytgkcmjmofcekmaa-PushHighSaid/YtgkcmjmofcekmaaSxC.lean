/- The walk's rules for operations that make or write memory, for loops, calls and returns. Plain laws over any program. -/
import Derived.Test.YtgkcmjmofcekmaaSxB
import Derived.Deep.LoopGhost
namespace Go.Proofs.Ytgkcmjmofcekmaa.Sx
open Go
set_option linter.unusedVariables false
set_option linter.unusedSimpArgs false

/-! ### what rows hold -/
@[reducible] def D.i (x : Int) : D := .v (.int .i64 x)
@[reducible] def D.bo (x : Bool) : D := .v (.bool x)
@[reducible] def D.nil : D := .v (.slice none 0 0)
def nth : List D → Nat → D
  | [], _ => .junk
  | d :: l, n => match n with
    | 0 => d
    | n + 1 => nth l n
def ints (xs : List Int) : C := ⟨xs.length, fun e _ => .v (.int .i64 (xs.getD e 0))⟩
def bools (xs : List Bool) : C := ⟨xs.length, fun e _ => .v (.bool (xs.getD e false))⟩
/-- one element: its cells -/
def st1 (g : Nat → D) : C := ⟨1, fun _ f => g f⟩
/-- a few elements, written out: the cells one behind the other -/
def lits (size n : Nat) (l : List D) : C := ⟨n, fun e f => nth l (e * size + f)⟩

structure Upd1 (size : Nat) (c : C) (e f : Nat) (q : D) (c' : C) : Prop where
  len : c'.len = c.len
  get : ∀ e' f', e' < c.len → f' < size → c'.get e' f' = if e' = e ∧ f' = f then q else c.get e' f'
structure UpdN (size : Nat) (c : C) (e f n : Nat) (q : Nat → D) (c' : C) : Prop where
  len : c'.len = c.len
  get : ∀ e' f', e' < c.len → f' < size → c'.get e' f' = if e' = e ∧ f ≤ f' ∧ f' < f + n then q (f' - f) else c.get e' f'

theorem Upd1.toN {size : Nat} {c c' : C} {e f : Nat} {q : D} (h : Upd1 size c e f q c') : UpdN size c e f 1 (fun _ => q) c' :=
  ⟨h.len, fun e' f' he hf => by
    rw [h.get e' f' he hf]
    by_cases h1 : e' = e ∧ f' = f
    · rw [if_pos h1, if_pos ⟨h1.1, by omega, by omega⟩]
    · rw [if_neg h1, if_neg (fun h2 => h1 ⟨h2.1, by omega⟩)]⟩

theorem getD_set {α : Type} (xs : List α) (e e' : Nat) (v z : α) (h : e' < xs.length) : (xs.set e v).getD e' z = if e' = e then v else xs.getD e' z := by
  simp only [List.getD_eq_getElem?_getD, List.getElem?_set]
  by_cases he : e = e'
  · subst he; simp [h]
  · simp [he, Ne.symm he]

@[simp] theorem ints_len (xs : List Int) : (ints xs).len = xs.length := rfl
@[simp] theorem bools_len (xs : List Bool) : (bools xs).len = xs.length := rfl
@[simp] theorem st1_len (g : Nat → D) : (st1 g).len = 1 := rfl
@[simp] theorem lits_len (size n : Nat) (l : List D) : (lits size n l).len = n := rfl
theorem upd_ints {xs : List Int} {e : Nat} {v : Int} : Upd1 1 (ints xs) e 0 (.v (.int .i64 v)) (ints (xs.set e v)) :=
  ⟨by simp [ints], fun e' f' he hf => by
    have hf0 : f' = 0 := by omega
    subst hf0
    simp only [ints] at he ⊢
    rw [getD_set _ _ _ _ _ he]
    by_cases h : e' = e <;> simp [h]⟩
theorem upd_bools {xs : List Bool} {e : Nat} {v : Bool} : Upd1 1 (bools xs) e 0 (.v (.bool v)) (bools (xs.set e v)) :=
  ⟨by simp [bools], fun e' f' he hf => by
    have hf0 : f' = 0 := by omega
    subst hf0
    simp only [bools] at he ⊢
    rw [getD_set _ _ _ _ _ he]
    by_cases h : e' = e <;> simp [h]⟩
theorem upd_st1 {size f : Nat} {g : Nat → D} {q : D} : Upd1 size (st1 g) 0 f q (st1 fun f' => cond (Nat.beq f' f) q (g f')) :=
  ⟨rfl, fun e' f' he hf => by
    have he0 : e' = 0 := by simp only [st1] at he; omega
    subst he0
    simp only [st1]
    by_cases h : f' = f
    · subst h; simp
    · have : Nat.beq f' f = false := by rw [Bool.eq_false_iff]; exact fun e => h (Nat.eq_of_beq_eq_true e)
      simp [this, h]⟩
theorem upd_whole {size : Nat} {g q : Nat → D} : UpdN size (st1 g) 0 0 size q (st1 q) :=
  ⟨rfl, fun e' f' he hf => by
    have he0 : e' = 0 := by simp only [st1] at he; omega
    subst he0
    simp [st1, hf]⟩

/-! ### stores -/
def splice (cs : Array Value) (o : Nat) (vs : List Value) : Array Value := (cs.toList.take o ++ vs ++ cs.toList.drop (o + vs.length)).toArray

theorem size_splice (cs : Array Value) (o : Nat) (vs : List Value) (h : o + vs.length ≤ cs.size) : (splice cs o vs).size = cs.size := by
  simp [splice]; omega
theorem get_splice (cs : Array Value) (o : Nat) (vs : List Value) (h : o + vs.length ≤ cs.size) (j : Nat) :
    (splice cs o vs)[j]? = if o ≤ j ∧ j < o + vs.length then vs[j - o]? else cs[j]? := by
  have hl : (cs.toList.take o).length = o := by simp; omega
  simp only [splice, List.getElem?_toArray]
  by_cases h1 : j < o
  · rw [List.append_assoc, List.getElem?_append_left (by omega), if_neg (by omega), List.getElem?_take, if_pos h1]; simp
  · by_cases h2 : j < o + vs.length
    · rw [List.append_assoc, List.getElem?_append_right (by omega), hl, List.getElem?_append_left (by omega), if_pos ⟨by omega, h2⟩]
    · rw [List.getElem?_append_right (by simp; omega), if_neg (by omega), List.getElem?_drop]
      simp only [List.length_append, hl]
      rw [show o + vs.length + (j - (o + vs.length)) = j by omega]
      simp

theorem run_storeVar {P : Program} {w : World} {t te : TypeId} {n : Nat} {ag : Bool} [ht : TI P t n ag] {v : Value} (hv : v.cells.size = n) {g o : Nat} {cs : Array Value} (hg : w.heap[g]? = some (.cells cs te (0, 0)))
    (hfit : o + n ≤ cs.size) (h1 : ∀ u ∈ v.cells.toList, u.oneCell' = true) : (storeVar t ⟨g, o, none⟩ v).run P w = .ok () (w.setRow g (splice cs o v.cells.toList)) := by
  have hst := run_storeCells_at P g o te v.cells.toList 0 cs w hg (by simpa [hv] using hfit) h1
  simp only [storeVar, Sem.run_bind, ht.size, Result.andThen_ok, hv, ne_eq, not_true_eq_false, if_false]
  simpa [splice] using hst

theorem Same.setRow (w : World) (g : Nat) (cs : Array Value) : Same w (w.setRow g cs) (· = g) := ⟨rfl, rfl, rfl, by simp, fun k _ hm => setRow_other w g k cs hm⟩

theorem cell_unlike {size e e' f f' : Nat} (hf : f < size) (hf' : f' < size) (h : e * size + f = e' * size + f') : e = e' ∧ f = f' := by
  have h1 : (e * size + f) / size = e := by
    rw [Nat.mul_comm, Nat.mul_add_div (by omega), Nat.div_eq_of_lt hf, Nat.add_zero]
  have h2 : (e' * size + f') / size = e' := by
    rw [Nat.mul_comm, Nat.mul_add_div (by omega), Nat.div_eq_of_lt hf', Nat.add_zero]
  have : e = e' := by rw [← h1, ← h2, h]
  subst this
  exact ⟨rfl, by omega⟩

theorem le_cells {size s e f : Nat} (he : e < s) (hf : f ≤ size) : e * size + f ≤ s * size := by
  have := Nat.mul_le_mul_right size (show e + 1 ≤ s by omega)
  rw [Nat.add_mul] at this
  omega

theorem BOk.store {I : Nat → Prop} {w : World} {β : BK} {t : TypeId} {size : Nat} {c c' : C} (h : BOk I w β t size c) {e f n : Nat} {q : Nat → D} (hu : UpdN size c e f n q c') (he : e < c.len) (hf : f + n ≤ size) {vs : List Value}
    (hn : vs.length = n) (hv : ∀ j, j < n → ∃ u, vs[j]? = some u ∧ u.oneCell' = true ∧ Rd I w (q j) u) (hI : ¬ I β.b) :
    ∃ cs, w.heap[β.b]? = some (.cells cs t (0, 0)) ∧ β.o + (e * size + f) + n ≤ cs.size ∧ BOk I (w.setRow β.b (splice cs (β.o + (e * size + f)) vs)) β t size c' := by
  obtain ⟨h0, h1⟩ := h
  obtain ⟨cs, hc, hsz, hget⟩ := h1 (by omega)
  have hle := le_cells (s := β.s) (size := size) (e := e) (f := f + n) (by omega) hf
  have hfit : β.o + (e * size + f) + vs.length ≤ cs.size := by rw [hn, hsz]; omega
  refine ⟨cs, hc, by rw [← hn]; exact hfit, by rw [hu.len]; exact h0, fun _ => ⟨splice cs (β.o + (e * size + f)) vs, setRow_heap w β.b cs _ t (0, 0) hc, by rw [size_splice _ _ _ hfit, hsz], fun e' he' f' hf' => ?_⟩⟩
  rw [hu.len] at he'
  have hmono : ∀ d u, Rd I w d u → Rd I (w.setRow β.b (splice cs (β.o + (e * size + f)) vs)) d u :=
    fun d u hr => hr.mono (fun _ h => h) (fun b hb => setRow_other w β.b b _ (fun e => hI (e ▸ hb)))
  rw [get_splice _ _ _ hfit, hu.get e' f' he' hf', hn]
  by_cases hh : e' = e ∧ f ≤ f' ∧ f' < f + n
  · obtain ⟨rfl, h3, h4⟩ := hh
    obtain ⟨u, hu1, hu2, hu3⟩ := hv (f' - f) (by omega)
    rw [if_pos ⟨by omega, by omega⟩, if_pos ⟨rfl, h3, h4⟩]
    exact ⟨u, by rw [show β.o + (e' * size + f') - (β.o + (e' * size + f)) = f' - f by omega]; exact hu1, hu2, hmono _ _ hu3⟩
  · obtain ⟨u, hu1, hu2, hu3⟩ := hget e' he' f' hf'
    rw [if_neg hh, if_neg]
    · exact ⟨u, hu1, hu2, hmono _ _ hu3⟩
    · intro ⟨h3, h4⟩
      have hk : e' * size + f' = e * size + (f + (e' * size + f' - (e * size + f))) := by omega
      obtain ⟨h5, h6⟩ := cell_unlike hf' (by omega) hk
      exact hh ⟨h5, by omega, by omega⟩

def D.one : D → Bool
  | .v x => x.oneCell'
  | .ag _ _ => false
  | .tp _ _ => false
  | .junk => false
  | _ => true
theorem D.one_ok {q : D} (h : q.one = true) {I : Nat → Prop} {w : World} {v : Value} (hr : Rd I w q v) : v.oneCell' = true := by
  cases q with
  | v x => cases hr; exact h
  | sl size len get => obtain ⟨_, _, rfl, _⟩ := hr; rfl
  | e0 => obtain ⟨_, rfl⟩ := hr; rfl
  | ag n get => cases h
  | tp n get => cases h
  | own β size r len => obtain ⟨_, _, rfl, _⟩ := hr; rfl
  | ptr β size e f => cases hr; rfl
  | rp size len get e f => obtain ⟨_, _, rfl, _⟩ := hr; rfl
  | fn f n get => obtain ⟨_, rfl, _⟩ := hr; rfl
  | self f n get j => obtain ⟨_, _, _, rfl, _⟩ := hr; rfl
  | selfp f n get j => obtain ⟨_, _, _, rfl, _⟩ := hr; rfl
  | junk => cases h
theorem cells_one {v : Value} (h : v.oneCell' = true) : v.cells = #[v] := by cases v <;> first | rfl | cases h

/-- An operation that may change memory: the rows of wr alone, and new ones. -/
def Eff (X : Cx) (o : Oper) (s : St) (wr : List HL) (next : St → Prop) : Prop :=
  ∀ I a w, Sat X I s a w → ∀ Q, o.wp X.P a w (fun a' w' => Same w w' (fps wr) ∧ ∃ s', next s' ∧ Sat X I s' a' w') Q

theorem wp_val {P : Program} {o : Oper} {a : Act} {w w' : World} {v : Value} {K : Act → World → Prop} {Q : Exit → Act → World → Prop} (hr : (execOp a.eval o).run P w = .ok (.value v) w') (h : K (a.put o.dst v) w') : o.wp P a w K Q := by
  unfold Oper.wp
  rw [hr]
  exact h
theorem wp_skip0 {P : Program} {o : Oper} {a : Act} {w w' : World} {K : Act → World → Prop} {Q : Exit → Act → World → Prop} (hr : (execOp a.eval o).run P w = .ok .skip w') (h : K (a.put o.dst undef) w') : o.wp P a w K Q := by
  unfold Oper.wp
  rw [hr]
  exact h
theorem fps_one {x : HL} {b : Nat} (h : x.fp b) : fps [x] b := ⟨x, List.mem_singleton.2 rfl, h⟩

section
variable {X : Cx} {fn : Func} {R : Ending → World → Prop} {k : List It} {s : St} {all : Array Oper} {os : List Oper} {d : Tmp} {ty : TypeId} {pos : String} {aft : Array Edge} {gd : Option (Nat × Bool)} {x y : Operand} {q : D}

theorem GoO.eff {dd : Option Tmp} {op : Op} {wr : List HL} {next : St → Prop} (he : Eff X ⟨dd, op, ty, pos, aft, none⟩ s wr next) (h : ∀ s', next s' → GoO X fn R all os k s') :
    GoO X fn R all (⟨dd, op, ty, pos, aft, none⟩ :: os) k s :=
  ⟨fun I a w hs => wpList_plain rfl fun K hK => Oper.wp_mono (fun a' w' ⟨_, s', hn, hs'⟩ => hK _ _ ((h s' hn).run I a' w' hs')) (he I a w hs _)⟩
theorem GoO.eff1 {dd : Option Tmp} {op : Op} {wr : List HL} {s' : St} (he : Eff X ⟨dd, op, ty, pos, aft, none⟩ s wr (fun s2 => s2 = s')) (h : GoO X fn R all os k s') :
    GoO X fn R all (⟨dd, op, ty, pos, aft, none⟩ :: os) k s := GoO.eff he fun _ e => e ▸ h
theorem GoO.effB {dd : Option Tmp} {op : Op} {wr : List HL} {F : BK → St} (he : Eff X ⟨dd, op, ty, pos, aft, none⟩ s wr (fun s2 => ∃ β, s2 = F β)) (h : ∀ β, GoO X fn R all os k (F β)) :
    GoO X fn R all (⟨dd, op, ty, pos, aft, none⟩ :: os) k s := GoO.eff he fun _ ⟨β, e⟩ => e ▸ h β
theorem GoO.effC {dd : Option Tmp} {op : Op} {wr : List HL} {post : D → List HL → Prop} {F : D → List HL → St} (he : Eff X ⟨dd, op, ty, pos, aft, none⟩ s wr (fun s2 => ∃ r H', post r H' ∧ s2 = F r H')) (h : ∀ r H', post r H' → GoO X fn R all os k (F r H')) :
    GoO X fn R all (⟨dd, op, ty, pos, aft, none⟩ :: os) k s := GoO.eff he fun _ ⟨r, H', hp, e⟩ => e ▸ h r H' hp

theorem ef_store {β : BK} {size e f : Nat} {t te : TypeId} {c c' : C} {H : List HL} [ht : TI X.P t 1 false] (hx : s.ev x = some (.ptr β size e f)) (hy : s.ev y = some q) (hq : q.one = true)
    (hm : At s.heap (.one β te size c) (.one β te size c') H) (hu : Upd1 size c e f q c') (he : e < c.len) (hf : Nat.blt f size = true) :
    Eff X ⟨none, .store t x y, ty, pos, aft, gd⟩ s [.one β te size c] (fun s2 => s2 = ⟨s.env, H⟩) := fun I a w hs Q => by
  have hv : a.eval x = .pointer (some ⟨β.b, β.o + (e * size + f), none⟩) := hs.ev hx
  have hr := hs.ev hy
  have ho := D.one_ok hq hr
  have hb : BOk I w β te size c := hs.heap _ hm.mem
  have hpos : 0 < β.s := by have := hb.1; omega
  have hown := hs.own β.b ⟨_, hm.mem, hpos, rfl⟩
  obtain ⟨cs, hg, hfit, hb'⟩ := hb.store hu.toN he (blt_lt hf) (vs := [a.eval y]) rfl (fun j hj => ⟨a.eval y, by simp [show j = 0 by omega], ho, hr⟩) hown.1
  have hrun := run_storeVar (P := X.P) (w := w) (t := t) (v := a.eval y) (by rw [cells_one ho]; rfl) hg hfit (by rw [cells_one ho]; simpa using ho)
  rw [cells_one ho] at hrun
  have hsame : Same w (w.setRow β.b (splice cs (β.o + (e * size + f)) [a.eval y])) (HL.one β te size c).fp := (Same.setRow w β.b _).mono fun i hi => ⟨hpos, hi⟩
  refine wp_skip0 (w' := w.setRow β.b (splice cs (β.o + (e * size + f)) [a.eval y])) ?_ ⟨hsame.mono fun i hi => fps_one hi, _, rfl, ?_⟩
  · simp only [execOp, Instr.storeAt, Instr.sureAddr, hv, Sem.run_bind, Sem.run_pure, Result.andThen_ok, hrun]
  · exact hs.turn hm hsame hb' fun b hb => ⟨.inl hb, by rw [hb.2]; simpa using hown.2.2⟩

theorem ef_storeAg {β : BK} {size e f n : Nat} {g : Nat → D} {t te : TypeId} {c c' : C} {H : List HL} [ht : TI X.P t n true] (hx : s.ev x = some (.ptr β size e f)) (hy : s.ev y = some (.ag n g))
    (hm : At s.heap (.one β te size c) (.one β te size c') H) (hu : UpdN size c e f n g c') (he : e < c.len) (hf : Nat.ble (f + n) size = true) :
    Eff X ⟨none, .store t x y, ty, pos, aft, gd⟩ s [.one β te size c] (fun s2 => s2 = ⟨s.env, H⟩) := fun I a w hs Q => by
  have hv : a.eval x = .pointer (some ⟨β.b, β.o + (e * size + f), none⟩) := hs.ev hx
  obtain ⟨vs, hvs, hsz, hr⟩ := hs.ev hy
  have hb : BOk I w β te size c := hs.heap _ hm.mem
  have hpos : 0 < β.s := by have := hb.1; omega
  have hown := hs.own β.b ⟨_, hm.mem, hpos, rfl⟩
  obtain ⟨cs, hg, hfit, hb'⟩ := hb.store hu he (Nat.le_of_ble_eq_true hf) (vs := vs.toList) (by simpa using hsz) (fun j hj => by
    obtain ⟨u, h1, h2, h3⟩ := hr j hj
    exact ⟨u, by simpa using h1, h2, h3⟩) hown.1
  have hrun := run_storeVar (P := X.P) (w := w) (t := t) (v := .agg vs) hsz hg hfit (fun u hu => by
    obtain ⟨j, hj⟩ := List.mem_iff_getElem?.1 hu
    have hj' : vs[j]? = some u := by simpa [Value.cells] using hj
    have hjn : j < n := by
      have := (Array.getElem?_eq_some_iff.1 hj').1
      omega
    obtain ⟨u', h1, h2, _⟩ := hr j hjn
    rw [hj'] at h1
    cases h1
    exact h2)
  have hsame : Same w (w.setRow β.b (splice cs (β.o + (e * size + f)) vs.toList)) (HL.one β te size c).fp := (Same.setRow w β.b _).mono fun i hi => ⟨hpos, hi⟩
  refine wp_skip0 (w' := w.setRow β.b (splice cs (β.o + (e * size + f)) vs.toList)) ?_ ⟨hsame.mono fun i hi => fps_one hi, _, rfl, ?_⟩
  · simp only [execOp, Instr.storeAt, Instr.sureAddr, hv, hvs, Sem.run_bind, Sem.run_pure, Result.andThen_ok, hrun, Value.cells]
  · exact hs.turn hm hsame hb' fun b hb => ⟨.inl hb, by rw [hb.2]; simpa using hown.2.2⟩

theorem At.p0 {x y : HL} {l : List HL} : At (x :: l) x y (y :: l) := At.head _ _ _
theorem At.p1 {z0 x y : HL} {l : List HL} : At (z0 :: x :: l) x y (z0 :: y :: l) := At.tail _ _ _ _ _ (At.head _ _ _)
theorem At.p2 {z0 z1 x y : HL} {l : List HL} : At (z0 :: z1 :: x :: l) x y (z0 :: z1 :: y :: l) := At.tail _ _ _ _ _ (At.tail _ _ _ _ _ (At.head _ _ _))
theorem At.p3 {z0 z1 z2 x y : HL} {l : List HL} : At (z0 :: z1 :: z2 :: x :: l) x y (z0 :: z1 :: z2 :: y :: l) := At.tail _ _ _ _ _ (At.tail _ _ _ _ _ (At.tail _ _ _ _ _ (At.head _ _ _)))
theorem At.p4 {z0 z1 z2 z3 x y : HL} {l : List HL} : At (z0 :: z1 :: z2 :: z3 :: x :: l) x y (z0 :: z1 :: z2 :: z3 :: y :: l) := At.tail _ _ _ _ _ (At.tail _ _ _ _ _ (At.tail _ _ _ _ _ (At.tail _ _ _ _ _ (At.head _ _ _))))
theorem At.p5 {z0 z1 z2 z3 z4 x y : HL} {l : List HL} : At (z0 :: z1 :: z2 :: z3 :: z4 :: x :: l) x y (z0 :: z1 :: z2 :: z3 :: z4 :: y :: l) := At.tail _ _ _ _ _ (At.tail _ _ _ _ _ (At.tail _ _ _ _ _ (At.tail _ _ _ _ _ (At.tail _ _ _ _ _ (At.head _ _ _)))))
theorem At.p6 {z0 z1 z2 z3 z4 z5 x y : HL} {l : List HL} : At (z0 :: z1 :: z2 :: z3 :: z4 :: z5 :: x :: l) x y (z0 :: z1 :: z2 :: z3 :: z4 :: z5 :: y :: l) := At.tail _ _ _ _ _ (At.tail _ _ _ _ _ (At.tail _ _ _ _ _ (At.tail _ _ _ _ _ (At.tail _ _ _ _ _ (At.tail _ _ _ _ _ (At.head _ _ _))))))
theorem At.p7 {z0 z1 z2 z3 z4 z5 z6 x y : HL} {l : List HL} : At (z0 :: z1 :: z2 :: z3 :: z4 :: z5 :: z6 :: x :: l) x y (z0 :: z1 :: z2 :: z3 :: z4 :: z5 :: z6 :: y :: l) := At.tail _ _ _ _ _ (At.tail _ _ _ _ _ (At.tail _ _ _ _ _ (At.tail _ _ _ _ _ (At.tail _ _ _ _ _ (At.tail _ _ _ _ _ (At.tail _ _ _ _ _ (At.head _ _ _)))))))
theorem At.p8 {z0 z1 z2 z3 z4 z5 z6 z7 x y : HL} {l : List HL} : At (z0 :: z1 :: z2 :: z3 :: z4 :: z5 :: z6 :: z7 :: x :: l) x y (z0 :: z1 :: z2 :: z3 :: z4 :: z5 :: z6 :: z7 :: y :: l) := At.tail _ _ _ _ _ (At.tail _ _ _ _ _ (At.tail _ _ _ _ _ (At.tail _ _ _ _ _ (At.tail _ _ _ _ _ (At.tail _ _ _ _ _ (At.tail _ _ _ _ _ (At.tail _ _ _ _ _ (At.head _ _ _))))))))
theorem At.p9 {z0 z1 z2 z3 z4 z5 z6 z7 z8 x y : HL} {l : List HL} : At (z0 :: z1 :: z2 :: z3 :: z4 :: z5 :: z6 :: z7 :: z8 :: x :: l) x y (z0 :: z1 :: z2 :: z3 :: z4 :: z5 :: z6 :: z7 :: z8 :: y :: l) := At.tail _ _ _ _ _ (At.tail _ _ _ _ _ (At.tail _ _ _ _ _ (At.tail _ _ _ _ _ (At.tail _ _ _ _ _ (At.tail _ _ _ _ _ (At.tail _ _ _ _ _ (At.tail _ _ _ _ _ (At.tail _ _ _ _ _ (At.head _ _ _)))))))))
theorem At.p10 {z0 z1 z2 z3 z4 z5 z6 z7 z8 z9 x y : HL} {l : List HL} : At (z0 :: z1 :: z2 :: z3 :: z4 :: z5 :: z6 :: z7 :: z8 :: z9 :: x :: l) x y (z0 :: z1 :: z2 :: z3 :: z4 :: z5 :: z6 :: z7 :: z8 :: z9 :: y :: l) := At.tail _ _ _ _ _ (At.tail _ _ _ _ _ (At.tail _ _ _ _ _ (At.tail _ _ _ _ _ (At.tail _ _ _ _ _ (At.tail _ _ _ _ _ (At.tail _ _ _ _ _ (At.tail _ _ _ _ _ (At.tail _ _ _ _ _ (At.tail _ _ _ _ _ (At.head _ _ _))))))))))
theorem At.p11 {z0 z1 z2 z3 z4 z5 z6 z7 z8 z9 z10 x y : HL} {l : List HL} : At (z0 :: z1 :: z2 :: z3 :: z4 :: z5 :: z6 :: z7 :: z8 :: z9 :: z10 :: x :: l) x y (z0 :: z1 :: z2 :: z3 :: z4 :: z5 :: z6 :: z7 :: z8 :: z9 :: z10 :: y :: l) := At.tail _ _ _ _ _ (At.tail _ _ _ _ _ (At.tail _ _ _ _ _ (At.tail _ _ _ _ _ (At.tail _ _ _ _ _ (At.tail _ _ _ _ _ (At.tail _ _ _ _ _ (At.tail _ _ _ _ _ (At.tail _ _ _ _ _ (At.tail _ _ _ _ _ (At.tail _ _ _ _ _ (At.head _ _ _)))))))))))
theorem At.p12 {z0 z1 z2 z3 z4 z5 z6 z7 z8 z9 z10 z11 x y : HL} {l : List HL} : At (z0 :: z1 :: z2 :: z3 :: z4 :: z5 :: z6 :: z7 :: z8 :: z9 :: z10 :: z11 :: x :: l) x y (z0 :: z1 :: z2 :: z3 :: z4 :: z5 :: z6 :: z7 :: z8 :: z9 :: z10 :: z11 :: y :: l) := At.tail _ _ _ _ _ (At.tail _ _ _ _ _ (At.tail _ _ _ _ _ (At.tail _ _ _ _ _ (At.tail _ _ _ _ _ (At.tail _ _ _ _ _ (At.tail _ _ _ _ _ (At.tail _ _ _ _ _ (At.tail _ _ _ _ _ (At.tail _ _ _ _ _ (At.tail _ _ _ _ _ (At.tail _ _ _ _ _ (At.head _ _ _))))))))))))
theorem At.p13 {z0 z1 z2 z3 z4 z5 z6 z7 z8 z9 z10 z11 z12 x y : HL} {l : List HL} : At (z0 :: z1 :: z2 :: z3 :: z4 :: z5 :: z6 :: z7 :: z8 :: z9 :: z10 :: z11 :: z12 :: x :: l) x y (z0 :: z1 :: z2 :: z3 :: z4 :: z5 :: z6 :: z7 :: z8 :: z9 :: z10 :: z11 :: z12 :: y :: l) := At.tail _ _ _ _ _ (At.tail _ _ _ _ _ (At.tail _ _ _ _ _ (At.tail _ _ _ _ _ (At.tail _ _ _ _ _ (At.tail _ _ _ _ _ (At.tail _ _ _ _ _ (At.tail _ _ _ _ _ (At.tail _ _ _ _ _ (At.tail _ _ _ _ _ (At.tail _ _ _ _ _ (At.tail _ _ _ _ _ (At.tail _ _ _ _ _ (At.head _ _ _)))))))))))))

/-! ### new rows -/
/-- The zero value of a type: its cells; how many bytes an element takes. -/
class ZI (P : Program) (t : TypeId) (size : outParam Nat) (bytes : outParam Nat) (z : outParam Value) : Prop where
  h : ∃ i, P.info? t = some i ∧ i.zero = some z ∧ i.size = size ∧ i.bytes = bytes ∧ z.cells.size = size ∧ (∀ u ∈ z.cells.toList, u.oneCell' = true)

theorem ZI.of {P : Program} {t : TypeId} {size bytes : Nat} {z : Value} (h : (P.info? t).map (fun i => (i.zero, i.size, i.bytes)) = some (some z, size, bytes)) (h1 : z.cells.size = size) (h2 : z.cells.toList.all (·.oneCell') = true) : ZI P t size bytes z where
  h := by
    cases hi : P.info? t with
    | none => simp [hi] at h
    | some i =>
      simp [hi] at h
      exact ⟨i, rfl, h.1, h.2.1, h.2.2, h1, List.all_eq_true.1 h2⟩

theorem heap_new (w : World) (o : Obj) : (w.alloc o).heap[w.heap.size]? = some o := heap_alloc_new w o

theorem BOk.fresh (I : Nat → Prop) (w : World) (cs : Array Value) (t : TypeId) (s size : Nat) (c : C) (hs : cs.size = s * size) (hl : c.len ≤ s)
    (h : ∀ e, e < c.len → ∀ f, f < size → ∃ u, cs[e * size + f]? = some u ∧ u.oneCell' = true ∧ Rd I w (c.get e f) u) (hI : ∀ b, I b → b < w.heap.size) : BOk I (w.alloc (.cells cs t)) ⟨w.heap.size, 0, s⟩ t size c :=
  ⟨hl, fun _ => ⟨cs, heap_new w _, by simpa using hs, fun e he f hf => by
    obtain ⟨u, h1, h2, h3⟩ := h e he f hf
    exact ⟨u, by simpa using h1, h2, h3.mono (fun _ h => h) fun b hb => Go.RowKit.Below.heap_alloc w _ b (hI b hb)⟩⟩⟩

theorem Sat.fresh {I : Nat → Prop} {a : Act} {w : World} (hs : Sat X I s a w) (cs : Array Value) (t : TypeId) (sz size : Nat) (c : C) (h1 : cs.size = sz * size) (h2 : c.len ≤ sz)
    (h : ∀ e, e < c.len → ∀ f, f < size → ∃ u, cs[e * size + f]? = some u ∧ u.oneCell' = true ∧ Rd I w (c.get e f) u) :
    Sat X I ⟨s.env, .one ⟨w.heap.size, 0, sz⟩ t size c :: s.heap⟩ a (w.alloc (.cells cs t)) :=
  hs.new (Same.alloc w _ _) _ (BOk.fresh I w cs t sz size c h1 h2 h fun b hb => (hs.imm b hb).1) fun b hb => by
    obtain ⟨_, rfl⟩ := hb
    simp

theorem rd_ptr0 {I : Nat → Prop} {w : World} (g size : Nat) : Rd I w (.ptr ⟨g, 0, 1⟩ size 0 0) (.pointer (some ⟨g, 0, none⟩)) := by show _ = _; simp

theorem ef_alloc {t : TypeId} {size bytes : Nat} {z : Value} [hz : ZI X.P t size bytes z] (hd : Nat.blt d X.nt = true) :
    Eff X ⟨some d, .alloc t, ty, pos, aft, gd⟩ s [] (fun s2 => ∃ β : BK, s2 = ⟨(d, .ptr β size 0 0) :: s.env, .one β t size (st1 fun f => .v (z.cells.getD f undef)) :: s.heap⟩) := fun I a w hs Q => by
  obtain ⟨i, h1, h2, h3, h4, h5, h6⟩ := hz.h
  refine wp_val (v := .pointer (some ⟨w.heap.size, 0, none⟩)) (w' := w.alloc (.cells z.cells t)) ?_ ⟨Same.alloc w _ _, _, ⟨⟨w.heap.size, 0, 1⟩, rfl⟩, ?_⟩
  · simp [execOp, Instr.alloc, zeroValue, typeInfo, h1, h2, newVar, newRow]
  · refine (hs.fresh z.cells t 1 size _ (by rw [h5]; omega) (Nat.le_refl _) fun e he f hf => ?_).put (blt_lt hd) (rd_ptr0 _ _)
    have he0 : e = 0 := by simp only [st1] at he; omega
    subst he0
    have hlt : f < z.cells.size := by omega
    refine ⟨z.cells[f], by simp [hlt], h6 _ (by simp), ?_⟩
    show z.cells[f] = z.cells.getD f undef
    simp [hlt]

theorem ef_box {t : TypeId} {n : Nat} {ag : Bool} [ht : TI X.P t n ag] (hx : s.ev x = some q) (hq : q.one = true) (hd : Nat.blt d X.nt = true) :
    Eff X ⟨some d, .box t x, ty, pos, aft, gd⟩ s [] (fun s2 => ∃ β : BK, s2 = ⟨(d, .ptr β 1 0 0) :: s.env, .one β t 1 (st1 fun _ => q) :: s.heap⟩) := fun I a w hs Q => by
  have hr := hs.ev hx
  have ho := D.one_ok hq hr
  refine wp_val (v := .pointer (some ⟨w.heap.size, 0, none⟩)) (w' := w.alloc (.cells #[a.eval x] t)) ?_ ⟨Same.alloc w _ _, _, ⟨⟨w.heap.size, 0, 1⟩, rfl⟩, ?_⟩
  · simp [execOp, Instr.box, newVar, newRow, cells_one ho]
  · refine (hs.fresh #[a.eval x] t 1 1 _ rfl (Nat.le_refl _) fun e he f hf => ?_).put (blt_lt hd) rfl
    have he0 : e = 0 := by simp only [st1] at he; omega
    have hf0 : f = 0 := by omega
    subst he0 hf0
    exact ⟨a.eval x, rfl, ho, hr⟩
theorem ef_boxAg {t : TypeId} {n : Nat} {g : Nat → D} (hx : s.ev x = some (.ag n g)) (hd : Nat.blt d X.nt = true) :
    Eff X ⟨some d, .box t x, ty, pos, aft, gd⟩ s [] (fun s2 => ∃ β : BK, s2 = ⟨(d, .ptr β n 0 0) :: s.env, .one β t n (st1 g) :: s.heap⟩) := fun I a w hs Q => by
  obtain ⟨vs, hvs, hsz, hr⟩ := hs.ev hx
  refine wp_val (v := .pointer (some ⟨w.heap.size, 0, none⟩)) (w' := w.alloc (.cells vs t)) ?_ ⟨Same.alloc w _ _, _, ⟨⟨w.heap.size, 0, 1⟩, rfl⟩, ?_⟩
  · simp [execOp, Instr.box, newVar, newRow, hvs, Value.cells]
  · refine (hs.fresh vs t 1 n _ (by omega) (Nat.le_refl _) fun e he f hf => ?_).put (blt_lt hd) (rd_ptr0 _ _)
    have he0 : e = 0 := by simp only [st1] at he; omega
    subst he0
    obtain ⟨u, h1, h2, h3⟩ := hr f hf
    exact ⟨u, by simpa using h1, h2, h3⟩

/-- A new row of n elements of the type: what it holds. -/
class ZC (P : Program) (t : TypeId) (size : outParam Nat) (bytes : outParam Nat) (mk : outParam (Nat → C)) : Prop where
  h : ∃ z, ZI P t size bytes z ∧ ∀ n, (mk n).len = n ∧ ∀ e f, e < n → f < size → (mk n).get e f = .v (z.cells.getD f undef)
theorem ZC.ints {P : Program} {t : TypeId} [h : ZI P t 1 8 (.int .i64 0)] : ZC P t 1 8 (fun n => ints (List.replicate n 0)) where
  h := ⟨_, h, fun n => ⟨by simp [Sx.ints], fun e f he hf => by
    have : f = 0 := by omega
    subst this
    simp [Sx.ints, he, Value.cells]⟩⟩
theorem ZC.bools {P : Program} {t : TypeId} [h : ZI P t 1 1 (.bool false)] : ZC P t 1 1 (fun n => bools (List.replicate n false)) where
  h := ⟨_, h, fun n => ⟨by simp [Sx.bools], fun e f he hf => by
    have : f = 0 := by omega
    subst this
    simp [Sx.bools, he, Value.cells]⟩⟩

theorem get_madeCells {z : Array Value} {n size : Nat} (hs : z.size = size) {e f : Nat} (he : e < n) (hf : f < size) : (madeCells z (n * size))[e * size + f]? = some (z.getD f undef) := by
  have hlt : e * size + f < n * size := by have := le_cells (s := n) (size := size) (e := e) (f := f + 1) he (by omega); omega
  have hm : (e * size + f) % size = f := by rw [Nat.mul_comm, Nat.mul_add_mod, Nat.mod_eq_of_lt hf]
  have hf' : f < z.size := by omega
  have e : z[f]! = z[f]?.getD undef := by rw [getElem!_pos z f hf']; simp [hf']
  simp [madeCells, hlt, hs, hm, e]

theorem ef_make {t e : TypeId} {size bytes : Nat} {mk : Nat → C} {m : Int} [ht : SlT X.P t e] [hz : ZC X.P e size bytes mk] (hx : s.ev x = some (.v (.int .i64 m))) (hy : s.ev y = some (.v (.int .i64 m))) (h0 : 0 ≤ m) (hm : m * bytes ≤ 1000000000000)
    (hd : Nat.blt d X.nt = true) (hb1 : Nat.blt 0 bytes = true) :
    Eff X ⟨some d, .makeSlice t x y, ty, pos, aft, gd⟩ s [] (fun s2 => ∃ β : BK, s2 = ⟨(d, .own β size 0 m.toNat) :: s.env, .one β e size (mk m.toNat) :: s.heap⟩) := fun I a w hs Q => by
  obtain ⟨z, ⟨i, h1, h2, h3, h4, h5, h6⟩, hmk⟩ := hz.h
  have ex : a.eval x = .int .i64 m := hs.ev hx
  have ey : a.eval y = .int .i64 m := hs.ev hy
  have hbb := blt_lt hb1
  have hmb : m ≤ m * bytes := by
    have : m * 1 ≤ m * (bytes : Int) := Int.mul_le_mul_of_nonneg_left (by omega) h0
    omega
  have hr := run_make (P := X.P) w t e i z ht.h h1 h2 .i64 .i64 m m h0 (Int.le_refl _) (by rw [h4, Int.mul_comm]; omega) (by omega)
  refine wp_val (v := .slice (some ⟨w.heap.size, 0, none⟩) m.toNat m.toNat) (w' := w.alloc (.cells (madeCells z.cells (m.toNat * i.size)) e)) ?_ ⟨Same.alloc w _ _, _, ⟨⟨w.heap.size, 0, m.toNat⟩, rfl⟩, ?_⟩
  · simp only [execOp, ex, ey, Sem.run_bind, hr, Result.andThen_ok, Sem.run_pure]
  · obtain ⟨g1, g2⟩ := hmk m.toNat
    refine (hs.fresh _ e m.toNat size (mk m.toNat) (by rw [size_madeCells, h3]) (by rw [g1]; exact Nat.le_refl _) fun e' he' f hf => ?_).put (blt_lt hd) ?_
    · rw [g1] at he'
      rw [h3, get_madeCells h5 he' hf, g2 e' f he' hf]
      have hlt : f < z.cells.size := by omega
      refine ⟨_, rfl, ?_, rfl⟩
      rw [show z.cells.getD f undef = z.cells[f] by simp [hlt]]
      exact h6 _ (by simp)
    · refine ⟨some ⟨w.heap.size, 0, none⟩, m.toNat, rfl, Nat.le_refl _, ?_, by simp, fun _ => by simp⟩
      unfold maxLen
      omega

/-- Elements written out: the parts of a literal, placed. -/
def cellsOf (n : Nat) (q : D) : List D :=
  match q with
  | .ag _ g => (List.range n).map g
  | q => [q]
end

/-! ### loops -/
def EnvLe (env : List (Nat × D)) : List (Nat × D) → Prop
  | [] => True
  | (k, d) :: r => look env k = some d ∧ EnvLe env r
theorem EnvLe.look {env : List (Nat × D)} : ∀ {env' : List (Nat × D)}, EnvLe env env' → ∀ k d, look env' k = some d → look env k = some d
  | [], _, _, _, h => by cases h
  | (j, e) :: r, h, k, d, hk => by
    by_cases hj : j = k
    · subst hj
      have : Nat.beq j j = true := by simp
      simp only [Sx.look, this, cond_true, Option.some.injEq] at hk
      subst hk
      exact h.1
    · have : Nat.beq j k = false := by rw [Bool.eq_false_iff]; exact fun e => hj (Nat.eq_of_beq_eq_true e)
      simp only [Sx.look, this, cond_false] at hk
      exact EnvLe.look h.2 k d hk
theorem EnvLe.nil {env : List (Nat × D)} : EnvLe env [] := trivial
theorem EnvLe.cons {env r : List (Nat × D)} {k : Nat} {d : D} (h : Sx.look env k = some d) (h' : EnvLe env r) : EnvLe env ((k, d) :: r) := ⟨h, h'⟩

/-- Out of H the rows of A are taken; B is left. -/
inductive Rem : List HL → HL → List HL → Prop
  | head (x : HL) (l : List HL) : Rem (x :: l) x l
  | tail (z x : HL) (l l' : List HL) (h : Rem l x l') : Rem (z :: l) x (z :: l')
inductive Take : List HL → List HL → List HL → Prop
  | nil (l : List HL) : Take l [] l
  | cons (l m r : List HL) (x : HL) (A : List HL) (h : Rem l x m) (h' : Take m A r) : Take l (x :: A) r

theorem Rem.perm {l l' : List HL} {x : HL} (h : Rem l x l') : l.Perm (x :: l') := by
  induction h with
  | head => exact .refl _
  | tail z x l l' _ ih => exact (ih.cons z).trans (.swap _ _ _)
theorem Take.perm {l A r : List HL} (h : Take l A r) : l.Perm (A ++ r) := by
  induction h with
  | nil => exact .refl _
  | cons l m r x A h _ ih => exact h.perm.trans (ih.cons x)

theorem Rem.p0 {x : HL} {l : List HL} : Rem (x :: l) x (l) := Rem.head _ _
theorem Rem.p1 {z0 x : HL} {l : List HL} : Rem (z0 :: x :: l) x (z0 :: l) := Rem.tail _ _ _ _ (Rem.head _ _)
theorem Rem.p2 {z0 z1 x : HL} {l : List HL} : Rem (z0 :: z1 :: x :: l) x (z0 :: z1 :: l) := Rem.tail _ _ _ _ (Rem.tail _ _ _ _ (Rem.head _ _))
theorem Rem.p3 {z0 z1 z2 x : HL} {l : List HL} : Rem (z0 :: z1 :: z2 :: x :: l) x (z0 :: z1 :: z2 :: l) := Rem.tail _ _ _ _ (Rem.tail _ _ _ _ (Rem.tail _ _ _ _ (Rem.head _ _)))
theorem Rem.p4 {z0 z1 z2 z3 x : HL} {l : List HL} : Rem (z0 :: z1 :: z2 :: z3 :: x :: l) x (z0 :: z1 :: z2 :: z3 :: l) := Rem.tail _ _ _ _ (Rem.tail _ _ _ _ (Rem.tail _ _ _ _ (Rem.tail _ _ _ _ (Rem.head _ _))))
theorem Rem.p5 {z0 z1 z2 z3 z4 x : HL} {l : List HL} : Rem (z0 :: z1 :: z2 :: z3 :: z4 :: x :: l) x (z0 :: z1 :: z2 :: z3 :: z4 :: l) := Rem.tail _ _ _ _ (Rem.tail _ _ _ _ (Rem.tail _ _ _ _ (Rem.tail _ _ _ _ (Rem.tail _ _ _ _ (Rem.head _ _)))))
theorem Rem.p6 {z0 z1 z2 z3 z4 z5 x : HL} {l : List HL} : Rem (z0 :: z1 :: z2 :: z3 :: z4 :: z5 :: x :: l) x (z0 :: z1 :: z2 :: z3 :: z4 :: z5 :: l) := Rem.tail _ _ _ _ (Rem.tail _ _ _ _ (Rem.tail _ _ _ _ (Rem.tail _ _ _ _ (Rem.tail _ _ _ _ (Rem.tail _ _ _ _ (Rem.head _ _))))))
theorem Rem.p7 {z0 z1 z2 z3 z4 z5 z6 x : HL} {l : List HL} : Rem (z0 :: z1 :: z2 :: z3 :: z4 :: z5 :: z6 :: x :: l) x (z0 :: z1 :: z2 :: z3 :: z4 :: z5 :: z6 :: l) := Rem.tail _ _ _ _ (Rem.tail _ _ _ _ (Rem.tail _ _ _ _ (Rem.tail _ _ _ _ (Rem.tail _ _ _ _ (Rem.tail _ _ _ _ (Rem.tail _ _ _ _ (Rem.head _ _)))))))
theorem Rem.p8 {z0 z1 z2 z3 z4 z5 z6 z7 x : HL} {l : List HL} : Rem (z0 :: z1 :: z2 :: z3 :: z4 :: z5 :: z6 :: z7 :: x :: l) x (z0 :: z1 :: z2 :: z3 :: z4 :: z5 :: z6 :: z7 :: l) := Rem.tail _ _ _ _ (Rem.tail _ _ _ _ (Rem.tail _ _ _ _ (Rem.tail _ _ _ _ (Rem.tail _ _ _ _ (Rem.tail _ _ _ _ (Rem.tail _ _ _ _ (Rem.tail _ _ _ _ (Rem.head _ _))))))))
theorem Rem.p9 {z0 z1 z2 z3 z4 z5 z6 z7 z8 x : HL} {l : List HL} : Rem (z0 :: z1 :: z2 :: z3 :: z4 :: z5 :: z6 :: z7 :: z8 :: x :: l) x (z0 :: z1 :: z2 :: z3 :: z4 :: z5 :: z6 :: z7 :: z8 :: l) := Rem.tail _ _ _ _ (Rem.tail _ _ _ _ (Rem.tail _ _ _ _ (Rem.tail _ _ _ _ (Rem.tail _ _ _ _ (Rem.tail _ _ _ _ (Rem.tail _ _ _ _ (Rem.tail _ _ _ _ (Rem.tail _ _ _ _ (Rem.head _ _)))))))))
theorem Rem.p10 {z0 z1 z2 z3 z4 z5 z6 z7 z8 z9 x : HL} {l : List HL} : Rem (z0 :: z1 :: z2 :: z3 :: z4 :: z5 :: z6 :: z7 :: z8 :: z9 :: x :: l) x (z0 :: z1 :: z2 :: z3 :: z4 :: z5 :: z6 :: z7 :: z8 :: z9 :: l) := Rem.tail _ _ _ _ (Rem.tail _ _ _ _ (Rem.tail _ _ _ _ (Rem.tail _ _ _ _ (Rem.tail _ _ _ _ (Rem.tail _ _ _ _ (Rem.tail _ _ _ _ (Rem.tail _ _ _ _ (Rem.tail _ _ _ _ (Rem.tail _ _ _ _ (Rem.head _ _))))))))))
theorem Rem.p11 {z0 z1 z2 z3 z4 z5 z6 z7 z8 z9 z10 x : HL} {l : List HL} : Rem (z0 :: z1 :: z2 :: z3 :: z4 :: z5 :: z6 :: z7 :: z8 :: z9 :: z10 :: x :: l) x (z0 :: z1 :: z2 :: z3 :: z4 :: z5 :: z6 :: z7 :: z8 :: z9 :: z10 :: l) := Rem.tail _ _ _ _ (Rem.tail _ _ _ _ (Rem.tail _ _ _ _ (Rem.tail _ _ _ _ (Rem.tail _ _ _ _ (Rem.tail _ _ _ _ (Rem.tail _ _ _ _ (Rem.tail _ _ _ _ (Rem.tail _ _ _ _ (Rem.tail _ _ _ _ (Rem.tail _ _ _ _ (Rem.head _ _)))))))))))
theorem Rem.p12 {z0 z1 z2 z3 z4 z5 z6 z7 z8 z9 z10 z11 x : HL} {l : List HL} : Rem (z0 :: z1 :: z2 :: z3 :: z4 :: z5 :: z6 :: z7 :: z8 :: z9 :: z10 :: z11 :: x :: l) x (z0 :: z1 :: z2 :: z3 :: z4 :: z5 :: z6 :: z7 :: z8 :: z9 :: z10 :: z11 :: l) := Rem.tail _ _ _ _ (Rem.tail _ _ _ _ (Rem.tail _ _ _ _ (Rem.tail _ _ _ _ (Rem.tail _ _ _ _ (Rem.tail _ _ _ _ (Rem.tail _ _ _ _ (Rem.tail _ _ _ _ (Rem.tail _ _ _ _ (Rem.tail _ _ _ _ (Rem.tail _ _ _ _ (Rem.tail _ _ _ _ (Rem.head _ _))))))))))))
theorem Rem.p13 {z0 z1 z2 z3 z4 z5 z6 z7 z8 z9 z10 z11 z12 x : HL} {l : List HL} : Rem (z0 :: z1 :: z2 :: z3 :: z4 :: z5 :: z6 :: z7 :: z8 :: z9 :: z10 :: z11 :: z12 :: x :: l) x (z0 :: z1 :: z2 :: z3 :: z4 :: z5 :: z6 :: z7 :: z8 :: z9 :: z10 :: z11 :: z12 :: l) := Rem.tail _ _ _ _ (Rem.tail _ _ _ _ (Rem.tail _ _ _ _ (Rem.tail _ _ _ _ (Rem.tail _ _ _ _ (Rem.tail _ _ _ _ (Rem.tail _ _ _ _ (Rem.tail _ _ _ _ (Rem.tail _ _ _ _ (Rem.tail _ _ _ _ (Rem.tail _ _ _ _ (Rem.tail _ _ _ _ (Rem.tail _ _ _ _ (Rem.head _ _)))))))))))))

theorem sep_perm {l l' : List HL} (h : l.Perm l') (hs : Sep l) : Sep l' := (h.pairwise_iff (fun hab b hb ha => hab b ha hb)).1 hs
theorem fps_perm {l l' : List HL} (h : l.Perm l') (b : Nat) : fps l b ↔ fps l' b :=
  ⟨fun ⟨x, hx, hb⟩ => ⟨x, h.mem_iff.1 hx, hb⟩, fun ⟨x, hx, hb⟩ => ⟨x, h.mem_iff.2 hx, hb⟩⟩

/-- .. whatever is left -/
def Tk (l A : List HL) : Prop := ∃ r, Take l A r
theorem Tk.nil {l : List HL} : Tk l [] := ⟨_, .nil l⟩
theorem Tk.cons {l m A : List HL} {x : HL} (h : Rem l x m) (h' : Tk m A) : Tk l (x :: A) := let ⟨r, hr⟩ := h'; ⟨r, .cons l m r x A h hr⟩
theorem Tk.all (l : List HL) : Tk l l := by
  induction l with
  | nil => exact Tk.nil
  | cons x l ih => exact Tk.cons (.head x l) ih
/-- Whatever s says, s' says too. -/
def Le (s s' : St) : Prop := ∀ X I a w, Sat X I s a w → Sat X I s' a w
theorem Le.of {s s' : St} (he : EnvLe s.env s'.env) {r : List HL} (hh : Take s.heap s'.heap r) : Le s s' := fun _ _ _ _ hs =>
  ⟨hs.tsz, hs.dfr, fun k d hk => hs.env k d (he.look k d hk), fun x hx => hs.heap x (hh.perm.mem_iff.2 (List.mem_append_left _ hx)),
    (List.pairwise_append.1 (sep_perm hh.perm hs.sep)).1, fun b ⟨x, hx, hb⟩ => hs.own b ⟨x, hh.perm.mem_iff.2 (List.mem_append_left _ hx), hb⟩, hs.imm, hs.i0, hs.same⟩

/-- the same, entries passed over that an earlier one hides -/
def EnvLeW (env : List (Nat × D)) : List Nat → List (Nat × D) → Prop
  | _, [] => True
  | seen, (k, d) :: r => (seen.any (Nat.beq k) = true ∨ look env k = some d) ∧ EnvLeW env (k :: seen) r
theorem EnvLeW.nil {env : List (Nat × D)} {seen : List Nat} : EnvLeW env seen [] := trivial
theorem EnvLeW.cons {env r : List (Nat × D)} {seen : List Nat} {k : Nat} {d : D} (h : Sx.look env k = some d) (h' : EnvLeW env (k :: seen) r) : EnvLeW env seen ((k, d) :: r) := ⟨.inr h, h'⟩
theorem EnvLeW.skip {env r : List (Nat × D)} {seen : List Nat} {k : Nat} {d : D} (h : seen.any (Nat.beq k) = true) (h' : EnvLeW env (k :: seen) r) : EnvLeW env seen ((k, d) :: r) := ⟨.inl h, h'⟩
theorem EnvLeW.look {env : List (Nat × D)} : ∀ {env' : List (Nat × D)} {seen : List Nat}, EnvLeW env seen env' → ∀ k d, k ∉ seen → look env' k = some d → look env k = some d
  | [], _, _, _, _, _, h => by cases h
  | (j, e) :: r, seen, h, k, d, hk, hl => by
    by_cases hj : j = k
    · subst hj
      have h1 : Nat.beq j j = true := by simp
      simp only [Sx.look, h1, cond_true, Option.some.injEq] at hl
      subst hl
      rcases h.1 with h2 | h2
      · obtain ⟨x, hx, hxj⟩ := List.any_eq_true.1 h2
        exact absurd (Nat.eq_of_beq_eq_true hxj ▸ hx) hk
      · exact h2
    · have h1 : Nat.beq j k = false := by rw [Bool.eq_false_iff]; exact fun e => hj (Nat.eq_of_beq_eq_true e)
      simp only [Sx.look, h1, cond_false] at hl
      refine EnvLeW.look h.2 k d (fun hm => ?_) hl
      rcases List.mem_cons.1 hm with e | e
      · exact hj e.symm
      · exact hk e
theorem Le.ofW {s s' : St} (he : EnvLeW s.env [] s'.env) (hh : Tk s.heap s'.heap) : Le s s' := let ⟨r, hh⟩ := hh; fun _ _ _ _ hs =>
  ⟨hs.tsz, hs.dfr, fun k d hk => hs.env k d (he.look k d (by simp) hk), fun x hx => hs.heap x (hh.perm.mem_iff.2 (List.mem_append_left _ hx)),
    (List.pairwise_append.1 (sep_perm hh.perm hs.sep)).1, fun b ⟨x, hx, hb⟩ => hs.own b ⟨x, hh.perm.mem_iff.2 (List.mem_append_left _ hx), hb⟩, hs.imm, hs.i0, hs.same⟩

section
variable {X : Cx} {fn : Func} {R : Ending → World → Prop} {k : List It} {s s' : St}
theorem GoC.le {c : Code} (hl : Le s s') (h : GoC X fn R c k s') : GoC X fn R c k s := ⟨fun I a w hs => h.run I a w (hl _ _ _ _ hs)⟩
theorem GoK.le (hl : Le s s') (h : GoK X fn R k s') : GoK X fn R k s := ⟨fun I a w hs => h.run I a w (hl _ _ _ _ hs)⟩
theorem GoO.le {all : Array Oper} {os : List Oper} (hl : Le s s') (h : GoO X fn R all os k s') : GoO X fn R all os k s := ⟨fun I a w hs => h.run I a w (hl _ _ _ _ hs)⟩

/-- A loop: what holds when so many rounds at most are to come. -/
theorem GoC.loop {c : Code} (J : Nat → St → Prop) (m : Nat) (h0 : J m s)
    (round : ∀ n s', J n s' → GoC X fn R c (.again (fun s'' => ∃ n', n' < n ∧ J n' s'') :: k) s') : GoC X fn R (.loop c) k s :=
  ⟨fun I a w hs => wp_loop_ghost (fun n a w => ∃ s I, J n s ∧ Sat X I s a w) m ⟨s, I, h0, hs⟩ fun n a w ⟨s', I', hJ, hs'⟩ =>
    wp_mono ((round n s' hJ).run I' a w hs') fun e a w hq => by
      cases e with
      | normal => obtain ⟨s2, I2, ⟨n', hn, hj⟩, h2⟩ := hq; exact ⟨n', hn, s2, I2, hj, h2⟩
      | exit id => exact hq
      | goto l => exact hq
      | ret => exact hq
      | panic ch => exact hq
      | outgrown => exact hq⟩
theorem GoK.againN {J : Nat → St → Prop} {n : Nat} (n' : Nat) (hn : n' < n) (h : J n' s') (hl : Le s s') : GoK X fn R (.again (fun s'' => ∃ n', n' < n ∧ J n' s'') :: k) s :=
  GoK.le hl (GoK.again ⟨n', hn, h⟩)
end

/-- What some slots read as. -/
def pick (env : List (Nat × D)) : List Nat → List (Nat × D)
  | [] => []
  | k :: ks => match look env k with
    | some d => (k, d) :: pick env ks
    | none => pick env ks
theorem look_append {l l' : List (Nat × D)} {k : Nat} {d : D} (h : look (l ++ l') k = some d) : look l k = some d ∨ look l' k = some d := by
  induction l with
  | nil => exact .inr h
  | cons x l ih =>
    obtain ⟨j, e⟩ := x
    cases hj : Nat.beq j k with
    | true =>
      left
      simp only [List.cons_append, look, hj, cond_true] at h ⊢
      exact h
    | false =>
      simp only [List.cons_append, look, hj, cond_false] at h ⊢
      exact ih h
theorem look_pick {env : List (Nat × D)} {k : Nat} {d : D} : ∀ {ks : List Nat}, look (pick env ks) k = some d → look env k = some d
  | [], h => by cases h
  | j :: ks, h => by
    unfold pick at h
    split at h
    · rename_i e he
      by_cases hj : j = k
      · subst hj
        have : Nat.beq j j = true := by simp
        simp only [look, this, cond_true] at h
        exact he.trans h
      · have : Nat.beq j k = false := by rw [Bool.eq_false_iff]; exact fun e => hj (Nat.eq_of_beq_eq_true e)
        simp only [look, this, cond_false] at h
        exact look_pick h
    · exact look_pick h

section
variable {X : Cx} {fn : Func} {R : Ending → World → Prop} {k : List It} {s : St}
/-- A loop: the slots 'vars' and the rows 'hp' as the data σ say; the slots 'ks' and the other rows stay as they are. -/
def Again {σ : Type} (J : Nat → σ → Prop) (vars : σ → List (Nat × D)) (hp : σ → List HL) (env : List (Nat × D)) (rest : List HL) (n : Nat) (s : St) : Prop :=
  ∃ n' x, n' < n ∧ J n' x ∧ s = ⟨vars x ++ env, hp x ++ rest⟩
theorem GoC.loopE {c : Code} {σ : Type} (ks : List Nat) (vars : σ → List (Nat × D)) (hp : σ → List HL) (J : Nat → σ → Prop) (m : Nat) (x0 : σ) {rest : List HL}
    (h0 : J m x0) (he : EnvLe s.env (vars x0)) (ht : Take s.heap (hp x0) rest)
    (round : ∀ n x, J n x → GoC X fn R c (.again (Again J vars hp (pick s.env ks) rest n) :: k) ⟨vars x ++ pick s.env ks, hp x ++ rest⟩) : GoC X fn R (.loop c) k s := by
  have hle : Le s ⟨vars x0 ++ pick s.env ks, hp x0 ++ rest⟩ := fun X I a w hs =>
    ⟨hs.tsz, hs.dfr, fun j d hj => hs.env j d (by
      rcases look_append hj with h | h
      · exact he.look j d h
      · exact look_pick h), fun z hz => hs.heap z (ht.perm.mem_iff.2 hz), sep_perm ht.perm hs.sep, fun b hb => hs.own b ((fps_perm ht.perm b).2 hb), hs.imm, hs.i0, hs.same⟩
  refine GoC.le hle (GoC.loop (fun n s' => ∃ x, J n x ∧ s' = ⟨vars x ++ pick s.env ks, hp x ++ rest⟩) m ⟨x0, h0, rfl⟩ fun n s' ⟨x, hj, e⟩ => ?_)
  subst e
  have h1 := round n x hj
  refine ⟨fun I a w hs => wp_mono (h1.run I a w hs) fun e a w hq => ?_⟩
  cases e with
  | normal => obtain ⟨s2, I2, ⟨n', x', hn, hj', e⟩, hs2⟩ := hq; exact ⟨s2, I2, ⟨n', hn, x', hj', e⟩, hs2⟩
  | exit id => exact hq
  | goto l => exact hq
  | ret => exact hq
  | panic ch => exact hq
  | outgrown => exact hq
theorem GoK.againE {σ : Type} {J : Nat → σ → Prop} {vars : σ → List (Nat × D)} {hp : σ → List HL} {env : List (Nat × D)} {rest : List HL} {n : Nat} (n' : Nat) (x : σ) (hn : n' < n) (hj : J n' x)
    (he : EnvLe s.env (vars x ++ env)) (ht : Tk s.heap (hp x ++ rest)) : GoK X fn R (.again (Again J vars hp env rest n) :: k) s :=
  let ⟨r, ht⟩ := ht
  GoK.le (s' := ⟨vars x ++ env, hp x ++ rest⟩) (Le.of he ht) (GoK.again ⟨n', x, hn, hj, rfl⟩)
end

/-! ### calls and returns -/
def RdL (I : Nat → Prop) (w : World) : List D → List Value → Prop
  | [], vs => vs = []
  | d :: ds, vs => ∃ v r, vs = v :: r ∧ Rd I w d v ∧ RdL I w ds r

structure HOk (I : Nat → Prop) (w : World) (H : List HL) : Prop where
  ok : ∀ h, h ∈ H → h.ok I w
  sep : Sep H
  own : ∀ b, fps H b → ¬ I b ∧ b < w.heap.size

def No : Nat → Prop := fun _ => False
def Or' (I N : Nat → Prop) : Nat → Prop := fun b => I b ∨ N b

/-- What a call of a function does: the arguments read so, the rows of H are the caller's own and may be written; the result owns what it reads. -/
def Does (P : Program) (f : FuncId) (args : List D) (H : List HL) (post : D → List HL → Prop) : Prop :=
  ∀ (I : Nat → Prop) (w : World) (vs : List Value), RdL I w args vs → HOk I w H → (∀ b, I b → b < w.heap.size) → Tab P I w →
    Calls P f vs.toArray w fun e w' => ∃ v d H' N, e = .returned v ∧ post d H' ∧ Rd (Or' I N) w' d v ∧ HOk (Or' I N) w' H' ∧ (∀ b, N b → w.heap.size ≤ b ∧ b < w'.heap.size) ∧ (∀ b, fps H' b → fps H b ∨ w.heap.size ≤ b) ∧ Same w w' (fps H)

theorem Does.mono {P : Program} {f : FuncId} {args : List D} {H : List HL} {post post' : D → List HL → Prop} (h : Does P f args H post) (hp : ∀ d H', post d H' → post' d H') : Does P f args H post' :=
  fun I w vs h1 h2 h3 h4 => (h I w vs h1 h2 h3 h4).mono fun _ _ ⟨v, d, H', N, e, hpo, r⟩ => ⟨v, d, H', N, e, hp d H' hpo, r⟩

/-- In place of d, which may name rows of H, the callee is told d': what they hold. -/
def Lend (H : List HL) (d d' : D) : Prop := ∀ I w v, (∀ h, h ∈ H → h.ok I w) → Rd I w d v → Rd (fun b => I b ∨ fps H b) w d' v
theorem Lend.refl (H : List HL) (d : D) : Lend H d d := fun _ _ _ _ hr => hr.mono (fun _ h => .inl h) (fun _ _ => rfl)
theorem Lend.own {H : List HL} {β : BK} {t : TypeId} {size r len : Nat} {c : C} {H' : List HL} (hm : At H (.one β t size c) (.one β t size c) H') (hl : r + len ≤ c.len) : Lend H (.own β size r len) (.sl size len fun e f => c.get (e + r) f) := by
  rintro I w v hok ⟨a, cap, rfl, h1, h2, h3, h4⟩
  refine ⟨a, cap, rfl, h1, h2, fun h0 => ⟨β.b, β.o + r * size, h4 (by omega), .inr ⟨_, hm.mem, by omega, rfl⟩, fun e he f hf => ?_⟩⟩
  have hb : BOk I w β t size c := hok _ hm.mem
  obtain ⟨u, hu, ho, hr⟩ := hb.cell (show e + r < c.len by omega) hf
  exact ⟨u, by rw [show β.o + r * size + (e * size + f) = β.o + ((e + r) * size + f) by rw [Nat.add_mul]; omega]; exact hu, ho, hr.mono (fun _ h => .inl h) fun _ _ => rfl⟩
/-- .. the whole row -/
theorem Lend.all {H : List HL} {β : BK} {t : TypeId} {size len : Nat} {c : C} {H' : List HL} (hm : At H (.one β t size c) (.one β t size c) H') (hl : len = c.len) : Lend H (.own β size 0 len) (.sl size c.len c.get) := by
  subst hl
  exact Lend.own hm (by omega)
theorem Lend.all' {H : List HL} {β : BK} {t : TypeId} {size len : Nat} {c : C} {H' : List HL} {d : D} (hm : At H (.one β t size c) (.one β t size c) H') (hl : len = c.len) (hd : D.sl size c.len c.get = d) : Lend H (.own β size 0 len) d := hd ▸ Lend.all hm hl
theorem Lend.nil {H : List HL} {size : Nat} {get : Nat → Nat → D} : Lend H (.v (.slice none 0 0)) (.sl size 0 get) := by
  rintro I w v _ hv
  exact ⟨none, 0, hv, Nat.le_refl _, Nat.zero_le _, fun h => absurd h (by omega)⟩
theorem Lend.e0 {H : List HL} {size : Nat} {get : Nat → Nat → D} : Lend H .e0 (.sl size 0 get) := by
  rintro I w v _ ⟨a, hv⟩
  exact ⟨a, 0, hv, Nat.le_refl _, Nat.zero_le _, fun h => absurd h (by omega)⟩
theorem Lend.ag {H : List HL} {n : Nat} {g g' : Nat → D} (h : ∀ i, i < n → Lend H (g i) (g' i)) : Lend H (.ag n g) (.ag n g') := by
  rintro I w v hok ⟨vs, rfl, h1, h2⟩
  exact ⟨vs, rfl, h1, fun i hi => let ⟨u, h3, h4, h5⟩ := h2 i hi; ⟨u, h3, h4, h i hi I w u hok h5⟩⟩
theorem Lend.tp {H : List HL} {n : Nat} {g g' : Nat → D} (h : ∀ i, i < n → Lend H (g i) (g' i)) : Lend H (.tp n g) (.tp n g') := by
  rintro I w v hok ⟨vs, rfl, h1, h2⟩
  exact ⟨vs, rfl, h1, fun i hi => let ⟨u, h3, h5⟩ := h2 i hi; ⟨u, h3, h i hi I w u hok h5⟩⟩
theorem nth_lt {l : List D} {i : Nat} (h : i < l.length) : nth l i = l.getD i .junk := by
  induction l generalizing i with
  | nil => simp at h
  | cons d l ih =>
    cases i with
    | zero => rfl
    | succ i =>
      show nth l i = _
      rw [ih (by simpa using h)]
      simp
def LendL (H : List HL) : List D → List D → Prop
  | [], ds' => ds' = []
  | d :: ds, ds' => ∃ d' r, ds' = d' :: r ∧ Lend H d d' ∧ LendL H ds r
theorem LendL.nil {H : List HL} : LendL H [] [] := rfl
theorem LendL.cons {H : List HL} {d d' : D} {ds ds' : List D} (h : Lend H d d') (h' : LendL H ds ds') : LendL H (d :: ds) (d' :: ds') := ⟨d', ds', rfl, h, h'⟩
theorem LendL.length {H : List HL} : ∀ {l l' : List D}, LendL H l l' → l'.length = l.length
  | [], _, h => by rw [h]
  | d :: l, _, ⟨d', r, e, _, h⟩ => by rw [e]; simp [LendL.length h]
theorem LendL.at {H : List HL} : ∀ {l l' : List D} (i : Nat), LendL H l l' → Lend H (nth l i) (nth l' i)
  | [], _, i, h => by rw [h]; exact Lend.refl _ _
  | d :: l, _, i, ⟨d', r, e, h1, h2⟩ => by
    subst e
    cases i with
    | zero => exact h1
    | succ i => exact LendL.at i h2
theorem Lend.agL {H : List HL} {n : Nat} {l l' : List D} (h : LendL H l l') : Lend H (.ag n (nth l)) (.ag n (nth l')) := Lend.ag fun i _ => LendL.at i h
theorem Lend.tpL {H : List HL} {n : Nat} {l l' : List D} (h : LendL H l l') : Lend H (.tp n (nth l)) (.tp n (nth l')) := Lend.tp fun i _ => LendL.at i h

theorem RdL.lend {H : List HL} {I : Nat → Prop} {w : World} (hok : ∀ h, h ∈ H → h.ok I w) : ∀ {ds ds' : List D} {vs : List Value}, LendL H ds ds' → RdL I w ds vs → RdL (fun b => I b ∨ fps H b) w ds' vs
  | [], _, _, h, hr => by rw [h]; exact hr
  | d :: ds, _, _, ⟨d', r, e, h1, h2⟩, ⟨v, vr, e2, h3, h4⟩ => by subst e e2; exact ⟨v, vr, rfl, h1 I w v hok h3, RdL.lend hok h2 h4⟩

def evL (s : St) : List Operand → Option (List D)
  | [] => some []
  | x :: l => match s.ev x, evL s l with
    | some d, some ds => some (d :: ds)
    | _, _ => none
theorem Sat.evL {X : Cx} {I : Nat → Prop} {s : St} {a : Act} {w : World} (hs : Sat X I s a w) : ∀ {l : List Operand} {ds : List D}, Sx.evL s l = some ds → RdL I w ds (l.map a.eval)
  | [], ds, h => by cases h; rfl
  | x :: l, ds, h => by
    unfold Sx.evL at h
    split at h
    · rename_i d ds' h1 h2
      cases h
      exact ⟨a.eval x, l.map a.eval, rfl, hs.ev h1, Sat.evL hs h2⟩
    · cases h

class FnT (P : Program) (f : FuncId) : Prop where
  run : ∀ args w, (callFunc f args).run P w = .ok (.enter f args) w
theorem FnT.of {P : Program} {f : FuncId} {fn : Func} (h : P.funcs[f]? = some fn) (h1 : (fn.name == "runtime.NumGoroutine") = false) (h2 : fn.body.isNone = false) : FnT P f where
  run := fun args w => by simp only [callFunc, Sem.run_bind, run_program, Result.andThen_ok, h, h1, h2, Bool.false_eq_true, if_false, Sem.run_pure]

section
variable {X : Cx} {fn : Func} {R : Ending → World → Prop} {k : List It} {s : St} {all : Array Oper} {os : List Oper} {d : Tmp} {ty : TypeId} {pos : String} {aft : Array Edge} {gd : Option (Nat × Bool)} {x y : Operand} {q : D}

/-- What names no immutable memory reads so in any world. -/
def IndepP (post : D → List HL → Prop) : Prop := ∀ d H, post d H → (∀ I w v, Rd I w d v → Rd No w d v) ∧ ∀ x, x ∈ H → ∀ I w, x.ok I w → x.ok No w

/-- A call: of the rows that are not the callee's, those of L are lent. After it they are data for good (fz), or the caller's own again: then the result must name none of them. -/
theorem ef_callG (fz : Bool) {f : FuncId} [hf : FnT X.P f] {xs : List Operand} {ats : Array TypeId} {ds ds' : List D} {Hin rest L rest' : List HL} {post : D → List HL → Prop}
    (hx : evL s xs = some ds) (ht : Take s.heap Hin rest) (hL : Take rest L rest') (spec : Does X.P f ds' Hin post) (hl : LendL L ds ds') (hd : Nat.blt d X.nt = true)
    (hfz : cond fz (∀ b, fps L b → ¬ X.may b) (IndepP post)) :
    ∀ I a w, Sat X I s a w → ∀ Q, Oper.wp X.P ⟨some d, .call { callee := .value (.func f), args := xs.toArray, argTypes := ats }, ty, pos, aft, gd⟩ a w (fun a' w' => Same w w' (fps Hin) ∧ ∃ s2, (∃ r H', post r H' ∧ s2 = ⟨(d, r) :: s.env, H' ++ cond fz rest' rest⟩) ∧ ∃ I', (fz = false → I' = I) ∧ Sat X I' s2 a' w') Q := fun I a w hs Q => by
  have hp := ht.perm
  have hpL := hL.perm
  have hrest : ∀ h, h ∈ rest → h ∈ s.heap := fun h hh => hp.mem_iff.2 (List.mem_append_right _ hh)
  have hin : ∀ h, h ∈ Hin → h ∈ s.heap := fun h hh => hp.mem_iff.2 (List.mem_append_left _ hh)
  have hLr : ∀ h, h ∈ L → h ∈ rest := fun h hh => hpL.mem_iff.2 (List.mem_append_left _ hh)
  have hRr : ∀ h, h ∈ rest' → h ∈ rest := fun h hh => hpL.mem_iff.2 (List.mem_append_right _ hh)
  have hfL : ∀ b, fps L b → fps rest b := fun b ⟨z, hz, hzb⟩ => ⟨z, hLr z hz, hzb⟩
  obtain ⟨hs1, hs2, hs3⟩ := List.pairwise_append.1 (sep_perm hp hs.sep)
  have hargs := RdL.lend (H := L) (fun h hh => hs.heap h (hrest h (hLr h hh))) hl (hs.evL hx)
  have hI' : ∀ b, (I b ∨ fps rest b) → b < w.heap.size := fun b hb => by
    rcases hb with hb | ⟨z, hz, hzb⟩
    · exact (hs.imm b hb).1
    · exact (hs.own b ⟨z, hrest z hz, hzb⟩).2.2
  have hIL : ∀ b, (I b ∨ fps L b) → b < w.heap.size := fun b hb => hI' b (hb.imp id (hfL b))
  have hr : (execOp a.eval ⟨some d, .call { callee := .value (.func f), args := xs.toArray, argTypes := ats }, ty, pos, aft, gd⟩).run X.P w = .ok (.enter f (xs.map a.eval).toArray) w := by
    simp [execOp, resolve, Act.eval, Deferred.ofValue, invoke, hf.run]
  unfold Oper.wp
  rw [hr]
  refine (spec (fun b => I b ∨ fps L b) w _ hargs ⟨fun h hh => (hs.heap h (hin h hh)).mono (fun _ h => .inl h) (fun _ _ => rfl) (fun _ _ => rfl), hs1, fun b ⟨z, hz, hzb⟩ => ?_⟩ hIL (hs.tab.mono (fun _ h => .inl h) (fun _ _ => rfl))).mono ?_
  · obtain ⟨o1, o2, o3⟩ := hs.own b ⟨z, hin z hz, hzb⟩
    refine ⟨fun hh => ?_, o3⟩
    rcases hh with hh | hh
    · exact o1 hh
    · obtain ⟨z', hz', hzb'⟩ := hfL b hh
      exact hs3 z hz z' hz' b hzb hzb'
  · rintro e w' ⟨v, r, H', N, he, hpost, hr, hok, hN, hfp, hsame⟩
    subst he
    refine ⟨hsame, _, ⟨r, H', hpost, rfl⟩, ?_⟩
    have hI : ∀ b, I b → w'.heap[b]? = w.heap[b]? := fun b hb => hsame.block b (hs.imm b hb).1 fun ⟨z, hz, hzb⟩ => (hs.own b ⟨z, hin z hz, hzb⟩).1 hb
    have hR : ∀ b, fps rest b → w'.heap[b]? = w.heap[b]? := fun b hb => hsame.block b (hI' b (.inr hb)) fun ⟨z, hz, hzb⟩ => by
      obtain ⟨z', hz', hzb'⟩ := hb
      exact hs3 z hz z' hz' b hzb hzb'
    cases fz with
    | false =>
      have hind := hfz r H' hpost
      have hNoI : Rd I w' r v := (hind.1 _ _ _ hr).mono (fun _ h => h.elim) (fun _ _ => rfl)
      refine ⟨I, fun _ => rfl, Sat.put (s := ⟨s.env, H' ++ rest⟩) ⟨hs.tsz, hs.dfr, fun j e hj => (hs.env j e hj).mono (fun _ h => h) hI, fun z hz => ?_, ?_, ?_, fun b hb => ⟨Nat.lt_of_lt_of_le (hs.imm b hb).1 hsame.size, (hs.imm b hb).2⟩, hs.i0,
        hs.same.step hsame fun i ⟨z, hz, hzb⟩ => (hs.own i ⟨z, hin z hz, hzb⟩).2.1.symm⟩ (blt_lt hd) hNoI⟩
      · rcases List.mem_append.1 hz with hz | hz
        · exact (hind.2 z hz _ _ (hok.ok z hz)).mono (fun _ h => h.elim) (fun _ _ => rfl) (fun _ _ => rfl)
        · exact (hs.heap z (hrest z hz)).mono (fun _ h => h) hI fun b hb => hR b ⟨z, hz, hb⟩
      · refine List.pairwise_append.2 ⟨hok.sep, hs2, fun z hz z' hz' b hb hb' => ?_⟩
        rcases hfp b ⟨z, hz, hb⟩ with ⟨u, hu, hub⟩ | h1
        · exact hs3 u hu z' hz' b hub hb'
        · have := hI' b (.inr ⟨z', hz', hb'⟩)
          omega
      · rintro b ⟨z, hz, hzb⟩
        rcases List.mem_append.1 hz with hz | hz
        · have h1 := (hok.own b ⟨z, hz, hzb⟩).2
          rcases hfp b ⟨z, hz, hzb⟩ with ⟨u, hu, hub⟩ | h2
          · obtain ⟨o1, o2, _⟩ := hs.own b ⟨u, hin u hu, hub⟩
            exact ⟨o1, o2, h1⟩
          · refine ⟨fun hi => ?_, .inl (Nat.le_trans hs.same.size h2), h1⟩
            have := (hs.imm b hi).1
            omega
        · obtain ⟨o1, o2, o3⟩ := hs.own b ⟨z, hrest z hz, hzb⟩
          exact ⟨o1, o2, Nat.lt_of_lt_of_le o3 hsame.size⟩
    | true =>
      obtain ⟨hq1, hq2, hq3⟩ := List.pairwise_append.1 (sep_perm hpL hs2)
      have hmay : ∀ b, fps L b → ¬ X.may b := hfz
      refine ⟨Or' (Or' I (fps L)) N, (fun h => by cases h), Sat.put (s := ⟨s.env, H' ++ rest'⟩) ⟨hs.tsz, hs.dfr, fun j e hj => (hs.env j e hj).mono (fun _ h => .inl (.inl h)) hI, fun z hz => ?_, ?_, ?_, ?_, fun b hb => .inl (.inl (hs.i0 b hb)),
        hs.same.step hsame fun i ⟨z, hz, hzb⟩ => (hs.own i ⟨z, hin z hz, hzb⟩).2.1.symm⟩ (blt_lt hd) hr⟩
      · rcases List.mem_append.1 hz with hz | hz
        · exact hok.ok z hz
        · exact (hs.heap z (hrest z (hRr z hz))).mono (fun _ h => .inl (.inl h)) hI fun b hb => hR b ⟨z, hRr z hz, hb⟩
      · refine List.pairwise_append.2 ⟨hok.sep, hq2, fun z hz z' hz' b hb hb' => ?_⟩
        rcases hfp b ⟨z, hz, hb⟩ with ⟨u, hu, hub⟩ | h1
        · exact hs3 u hu z' (hRr z' hz') b hub hb'
        · have := hI' b (.inr ⟨z', hRr z' hz', hb'⟩)
          omega
      · rintro b ⟨z, hz, hzb⟩
        rcases List.mem_append.1 hz with hz | hz
        · have h1 := hok.own b ⟨z, hz, hzb⟩
          refine ⟨h1.1, ?_, h1.2⟩
          rcases hfp b ⟨z, hz, hzb⟩ with ⟨u, hu, hub⟩ | h2
          · exact (hs.own b ⟨u, hin u hu, hub⟩).2.1
          · exact .inl (Nat.le_trans hs.same.size h2)
        · obtain ⟨o1, o2, o3⟩ := hs.own b ⟨z, hrest z (hRr z hz), hzb⟩
          refine ⟨fun hh => ?_, o2, Nat.lt_of_lt_of_le o3 hsame.size⟩
          rcases hh with (hh | ⟨z', hz', hzb'⟩) | hh
          · exact o1 hh
          · exact hq3 z' hz' z hz b hzb' hzb
          · have := (hN b hh).1
            omega
      · rintro b ((hb | hb) | hb)
        · exact ⟨Nat.lt_of_lt_of_le (hs.imm b hb).1 hsame.size, (hs.imm b hb).2⟩
        · have h1 := hs.own b (let ⟨z, hz, hzb⟩ := hb; ⟨z, hrest z (hLr z hz), hzb⟩)
          exact ⟨Nat.lt_of_lt_of_le h1.2.2 hsame.size, .inr (h1.2.1.resolve_right (hmay b hb))⟩
        · exact ⟨(hN b hb).2, .inr (Nat.le_trans hs.same.size (hN b hb).1)⟩

theorem ef_call {f : FuncId} [hf : FnT X.P f] {xs : List Operand} {ats : Array TypeId} {ds ds' : List D} {Hin rest L rest' : List HL} {post : D → List HL → Prop}
    (hx : evL s xs = some ds) (ht : Take s.heap Hin rest) (hL : Take rest L rest') (spec : Does X.P f ds' Hin post) (hl : LendL L ds ds') (hd : Nat.blt d X.nt = true) (hi : IndepP post) :
    Eff X ⟨some d, .call { callee := .value (.func f), args := xs.toArray, argTypes := ats }, ty, pos, aft, gd⟩ s Hin (fun s2 => ∃ r H', post r H' ∧ s2 = ⟨(d, r) :: s.env, H' ++ rest⟩) := fun I a w hs Q =>
  Oper.wp_mono (fun a' w' ⟨h1, s2, h2, I', h3, h4⟩ => ⟨h1, s2, h2, h3 rfl ▸ h4⟩) (ef_callG false hx ht hL spec hl hd hi I a w hs Q)
theorem GoO.callF {f : FuncId} [hf : FnT X.P f] {xs : List Operand} {ats : Array TypeId} {ds ds' : List D} {Hin rest L rest' : List HL} {post : D → List HL → Prop}
    (hx : evL s xs = some ds) (ht : Take s.heap Hin rest) (hL : Take rest L rest') (spec : Does X.P f ds' Hin post) (hl : LendL L ds ds') (hd : Nat.blt d X.nt = true) (hm : ∀ b, fps L b → ¬ X.may b)
    (h : ∀ r H', post r H' → GoO X fn R all os k ⟨(d, r) :: s.env, H' ++ rest'⟩) :
    GoO X fn R all (⟨some d, .call { callee := .value (.func f), args := xs.toArray, argTypes := ats }, ty, pos, aft, none⟩ :: os) k s :=
  ⟨fun I a w hs => wpList_plain rfl fun K hK => Oper.wp_mono (fun a' w' ⟨_, s2, ⟨r, H', hp, e⟩, I', _, h4⟩ => hK _ _ (by subst e; exact (h r H' hp).run I' a' w' h4)) (ef_callG true hx ht hL spec hl hd hm I a w hs _)⟩

/-- Rows of the call's own that nobody writes any more become data. -/
theorem GoO.freeze {env : List (Nat × D)} {A rest : List HL} {r r' : D} {j : Nat} (hl : Lend A r r') (hA : ∀ b, fps A b → ¬ X.may b) (h : GoO X fn R all os k ⟨(j, r') :: env, rest⟩) : GoO X fn R all os k ⟨(j, r) :: env, A ++ rest⟩ :=
  ⟨fun I a w hs => by
    obtain ⟨s1, s2, s3⟩ := List.pairwise_append.1 hs.sep
    have hmem : ∀ z, z ∈ A → z ∈ A ++ rest := fun z hz => List.mem_append_left _ hz
    refine h.run (fun b => I b ∨ fps A b) a w ⟨hs.tsz, hs.dfr, fun i e hi => ?_, fun z hz => (hs.heap z (List.mem_append_right _ hz)).mono (fun _ h => .inl h) (fun _ _ => rfl) (fun _ _ => rfl), s2, ?_, ?_, fun b hb => .inl (hs.i0 b hb), hs.same⟩
    · by_cases hji : j = i
      · subst hji
        have e1 : Nat.beq j j = true := by simp
        have hi' : some r' = some e := by simpa [look, e1] using hi
        cases hi'
        exact hl I w _ (fun z hz => hs.heap z (hmem z hz)) (hs.env j r (by simp [look, e1]))
      · have e1 : Nat.beq j i = false := by rw [Bool.eq_false_iff]; exact fun e => hji (Nat.eq_of_beq_eq_true e)
        exact (hs.env i e (by simpa [look, e1] using hi)).mono (fun _ h => .inl h) (fun _ _ => rfl)
    · rintro b ⟨z, hz, hzb⟩
      obtain ⟨o1, o2, o3⟩ := hs.own b ⟨z, List.mem_append_right _ hz, hzb⟩
      refine ⟨fun hh => ?_, o2, o3⟩
      rcases hh with hh | ⟨z', hz', hzb'⟩
      · exact o1 hh
      · exact s3 z' hz' z hz b hzb' hzb
    · intro b hb
      rcases hb with hb | ⟨z, hz, hzb⟩
      · exact hs.imm b hb
      · obtain ⟨_, o2, o3⟩ := hs.own b ⟨z, hmem z hz, hzb⟩
        exact ⟨o3, .inr (o2.resolve_right (hA b ⟨z, hz, hzb⟩))⟩⟩
end

/-! returns -/
/-- Data that names no immutable memory: it reads so whatever the world. -/
class Indep (d : D) : Prop where
  h : ∀ I w v, Rd I w d v → ∀ w', Rd No w' d v
class IndepC (c : C) : Prop where
  h : ∀ e f, Indep (c.get e f)
instance (x : Value) : Indep (.v x) := ⟨fun _ _ _ h _ => h⟩
instance : Indep .e0 := ⟨fun _ _ _ h _ => h⟩
instance : Indep .junk := ⟨fun _ _ _ h _ => h⟩
instance (β : BK) (size r len : Nat) : Indep (.own β size r len) := ⟨fun _ _ _ h _ => h⟩
instance (β : BK) (size e f : Nat) : Indep (.ptr β size e f) := ⟨fun _ _ _ h _ => h⟩
theorem Indep.tp {n : Nat} {g : Nat → D} (h : ∀ i, i < n → Indep (g i)) : Indep (.tp n g) :=
  ⟨fun _ _ _ ⟨vs, e, h1, h2⟩ w' => ⟨vs, e, h1, fun i hi => let ⟨u, h3, h4⟩ := h2 i hi; ⟨u, h3, (h i hi).h _ _ _ h4 w'⟩⟩⟩
theorem Indep.ag {n : Nat} {g : Nat → D} (h : ∀ i, i < n → Indep (g i)) : Indep (.ag n g) :=
  ⟨fun _ _ _ ⟨vs, e, h1, h2⟩ w' => ⟨vs, e, h1, fun i hi => let ⟨u, h3, h4, h5⟩ := h2 i hi; ⟨u, h3, h4, (h i hi).h _ _ _ h5 w'⟩⟩⟩
class IndepL (l : List D) : Prop where
  h : ∀ i, Indep (nth l i)
instance : IndepL [] := ⟨fun _ => inferInstanceAs (Indep .junk)⟩
instance (d : D) (l : List D) [h : Indep d] [h' : IndepL l] : IndepL (d :: l) := ⟨fun i => by
  cases i with
  | zero => exact h
  | succ i => exact h'.h i⟩
instance {n : Nat} {l : List D} [h : IndepL l] : Indep (.tp n (nth l)) := Indep.tp fun i _ => h.h i
instance {n : Nat} {l : List D} [h : IndepL l] : Indep (.ag n (nth l)) := Indep.ag fun i _ => h.h i
instance (xs : List Int) : IndepC (ints xs) := ⟨fun _ _ => inferInstanceAs (Indep (.v _))⟩
instance (xs : List Bool) : IndepC (bools xs) := ⟨fun _ _ => inferInstanceAs (Indep (.v _))⟩

class IndepH (H : List HL) : Prop where
  h : ∀ x, x ∈ H → ∀ I w, x.ok I w → x.ok No w
instance : IndepH [] := ⟨fun _ h => by cases h⟩
theorem BOk.indep {I : Nat → Prop} {w : World} {β : BK} {t : TypeId} {size : Nat} {c : C} (hc : IndepC c) (h : BOk I w β t size c) : BOk No w β t size c :=
  ⟨h.1, fun hs => let ⟨cs, h1, h2, h3⟩ := h.2 hs; ⟨cs, h1, h2, fun e he f hf => let ⟨u, h4, h5, h6⟩ := h3 e he f hf; ⟨u, h4, h5, (hc.h e f).h _ _ _ h6 w⟩⟩⟩
instance {β : BK} {t : TypeId} {size : Nat} {c : C} {H : List HL} [hc : IndepC c] [hh : IndepH H] : IndepH (.one β t size c :: H) := ⟨fun x hx I w hk => by
  rcases List.mem_cons.1 hx with rfl | hx
  · exact BOk.indep hc hk
  · exact hh.h x hx I w hk⟩

/-- .. what is known of the library's table at the call's begin -/
def TB (P : Program) (w0 : World) (I0 : Nat → Prop) (H0 : List HL) : Prop := Tab P I0 w0 ∧ ∀ b, I0 b → b < w0.heap.size ∧ ¬ fps H0 b

def RetOk (w0 : World) (I0 : Nat → Prop) (H : List HL) (post : D → List HL → Prop) (e : Ending) (w' : World) : Prop :=
  ∃ v d H' N, e = .returned v ∧ post d H' ∧ Rd (Or' I0 N) w' d v ∧ HOk (Or' I0 N) w' H' ∧ (∀ b, N b → w0.heap.size ≤ b ∧ b < w'.heap.size) ∧ (∀ b, fps H' b → fps H b ∨ w0.heap.size ≤ b) ∧ Same w0 w' (fps H)

/-- What a result variable reads as at the end. -/
def resV (tmps : Array Value) : ResultVar → Sem Value
  | .tmp t => Pure.pure (tmps.getD t undef)
  | .cell p t => do loadVar t (← asAddr (tmps.getD p undef))
def ResD (X : Cx) (s : St) (r : ResultVar) (d : D) : Prop := ∀ I a w, Sat X I s a w → ∃ v, (resV a.tmps r).run X.P w = .ok v w ∧ Rd I w d v
theorem ResD.tmp {X : Cx} {s : St} {t : Tmp} {d : D} (h : look s.env t = some d) : ResD X s (.tmp t) d := fun _ a w hs => ⟨a.tmps.getD t undef, rfl, hs.env t d h⟩
theorem ResD.cell {X : Cx} {s : St} {p : Tmp} {t te : TypeId} {β : BK} {size e f n : Nat} {c : C} {H : List HL} [ht : TI X.P t n false] (h : look s.env p = some (.ptr β size e f)) (hm : At s.heap (.one β te size c) (.one β te size c) H) (he : e < c.len) (hf : Nat.blt f size = true) :
    ResD X s (.cell p t) (c.get e f) := fun _ a w hs => by
  have hv : a.tmps.getD p undef = .pointer (some ⟨β.b, β.o + (e * size + f), none⟩) := hs.env p _ h
  have hb : BOk _ w β te size c := hs.heap _ hm.mem
  obtain ⟨u, hu, _, hr⟩ := hb.cell he (blt_lt hf)
  exact ⟨u, by simp only [resV, hv]; simp [asAddr, loadVar, ht.agg, hu], hr⟩
theorem ResD.cellAg {X : Cx} {s : St} {p : Tmp} {t te : TypeId} {β : BK} {size e n : Nat} {c : C} {H : List HL} [ht : TI X.P t n true] (h : look s.env p = some (.ptr β size e 0)) (hm : At s.heap (.one β te size c) (.one β te size c) H) (he : e < c.len) (hf : Nat.ble n size = true) :
    ResD X s (.cell p t) (.ag n (fun j => c.get e j)) := fun _ a w hs => by
  have hv : a.tmps.getD p undef = .pointer (some ⟨β.b, β.o + (e * size + 0), none⟩) := hs.env p _ h
  have hb : BOk _ w β te size c := hs.heap _ hm.mem
  have hf' := Nat.le_of_ble_eq_true hf
  have hc : ∀ j, ∃ u, j < n → w.cell? ⟨β.b, β.o + (e * size + 0) + j, none⟩ = some u ∧ u.oneCell' = true ∧ Rd _ w (c.get e j) u := fun j => by
    by_cases hj : j < n
    · obtain ⟨u, h⟩ := hb.cell he (show j < size by omega)
      exact ⟨u, fun _ => by rw [show β.o + (e * size + 0) + j = β.o + (e * size + j) by omega]; exact h⟩
    · exact ⟨undef, fun h => absurd h hj⟩
  obtain ⟨F, hF⟩ := Classical.axiomOfChoice hc
  refine ⟨_, ?_, rd_agg fun j hj => ⟨(hF j hj).2.1, (hF j hj).2.2⟩⟩
  have hl := run_loadAgg (P := X.P) w β.b (β.o + (e * size + 0)) n F fun j hj => (hF j hj).1
  simp only [resV, hv, asAddr, Sem.run_bind, Sem.run_pure, Result.andThen_ok, loadVar, ht.agg, ht.size, hl, if_true]

theorem results_eq (fn : Func) (tmps : Array Value) : results fn tmps = (do
    let vs ← fn.results.mapM (resV tmps)
    Pure.pure (if h : vs.size = 1 then vs[0] else .tuple vs)) := by
  unfold results
  congr 1

section
variable {P : Program} {fn : Func} {nt : Nat} {w0 : World} {I0 : Nat → Prop} {H0 : List HL} {tb : TB P w0 I0 H0} {post : D → List HL → Prop} {k : List It} {s : St} {d d1 d2 d3 d4 : D} {r1 r2 r3 r4 : ResultVar} {H' rest : List HL}

theorem retOk {I : Nat → Prop} {a : Act} {w : World} {v : Value} {l : List Deferred} (hs : Sat ⟨P, nt, w0, fps H0, I0, l, tb⟩ I s a w) (ht : Take s.heap H' rest) (hp : post d H') (hr : Rd I w d v) : RetOk w0 I0 H0 post (.returned v) w := by
  have hp' := ht.perm
  have hmem : ∀ z, z ∈ H' → z ∈ s.heap := fun z hz => hp'.mem_iff.2 (List.mem_append_left _ hz)
  have hI : ∀ b, I b → Or' I0 (fun b => I b ∧ w0.heap.size ≤ b) b := fun b hb => ((hs.imm b hb).2).imp id fun h => ⟨hb, h⟩
  refine ⟨v, d, H', fun b => I b ∧ w0.heap.size ≤ b, rfl, hp, hr.mono hI fun _ _ => rfl, ⟨fun z hz => (hs.heap z (hmem z hz)).mono hI (fun _ _ => rfl) (fun _ _ => rfl), (List.pairwise_append.1 (sep_perm hp' hs.sep)).1, fun b ⟨z, hz, hzb⟩ => ⟨fun h => ?_, (hs.own b ⟨z, hmem z hz, hzb⟩).2.2⟩⟩,
    fun b hb => ⟨hb.2, (hs.imm b hb.1).1⟩, fun b ⟨z, hz, hzb⟩ => (hs.own b ⟨z, hmem z hz, hzb⟩).2.1.symm, hs.same⟩
  rcases h with h | h
  · exact (hs.own b ⟨z, hmem z hz, hzb⟩).1 (hs.i0 b h)
  · exact (hs.own b ⟨z, hmem z hz, hzb⟩).1 h.1

/-- The end: what the results read as, and which rows go with them. -/
def ResL (X : Cx) (s : St) : List ResultVar → List D → Prop
  | [], ds => ds = []
  | r :: rs, ds => ∃ d l, ds = d :: l ∧ ResD X s r d ∧ ResL X s rs l
theorem ResL.nil {X : Cx} {s : St} : ResL X s [] [] := rfl
theorem ResL.cons {X : Cx} {s : St} {r : ResultVar} {rs : List ResultVar} {d : D} {l : List D} (h : ResD X s r d) (h' : ResL X s rs l) : ResL X s (r :: rs) (d :: l) := ⟨d, l, rfl, h, h'⟩
theorem ResL.run {X : Cx} {s : St} {I : Nat → Prop} {a : Act} {w : World} (hs : Sat X I s a w) : ∀ {rs : List ResultVar} {ds : List D}, ResL X s rs ds → ∃ vs : List Value, (rs.mapM (resV a.tmps)).run X.P w = .ok vs w ∧ vs.length = ds.length ∧
    ∀ i, i < ds.length → ∃ u, vs[i]? = some u ∧ Rd I w (nth ds i) u
  | [], _, h => by rw [show _ = [] from h]; exact ⟨[], by simp, rfl, fun i hi => absurd hi (by simp)⟩
  | r :: rs, _, ⟨d, l, e, h1, h2⟩ => by
    subst e
    obtain ⟨v, hv, hr⟩ := h1 I a w hs
    obtain ⟨vs, hvs, hl, hh⟩ := ResL.run hs h2
    refine ⟨v :: vs, by simp [List.mapM_cons, hv, hvs], by simp [hl], fun i hi => ?_⟩
    cases i with
    | zero => exact ⟨v, rfl, hr⟩
    | succ i =>
      obtain ⟨u, h3, h4⟩ := hh i (by simpa using hi)
      exact ⟨u, by simpa using h3, h4⟩
def tupD : List D → D
  | [d] => d
  | l => .tp l.length (nth l)
theorem retL_body {rs : List ResultVar} {ds : List D} (hf : fn.results = rs.toArray) (h1 : ResL ⟨P, nt, w0, fps H0, I0, [], tb⟩ s rs ds) (ht : Take s.heap H' rest) (hp : post (tupD ds) H') {R : Ending → World → Prop} (hR : ∀ e w', RetOk w0 I0 H0 post e w' → R e w') {I : Nat → Prop} {a : Act} {w : World} (hs : Sat ⟨P, nt, w0, fps H0, I0, [], tb⟩ I s a w) :
    bodyPostX ⟨P, nt, w0, fps H0, I0, [], tb⟩ fn R .ret a w := by
    obtain ⟨vs, hvs, hl, hh⟩ := ResL.run hs h1
    refine ⟨hs.dfr, if h : vs.toArray.size = 1 then vs.toArray[0] else .tuple vs.toArray, ?_, hR _ _ (retOk hs ht hp ?_)⟩
    · rw [results_eq, hf]
      simp only [] at hvs
      simp only [Sem.run_bind]
      rw [show (rs.toArray.mapM (resV a.tmps)) = (do let x ← rs.mapM (resV a.tmps); Pure.pure x.toArray) by simp [← List.mapM_toArray]]
      simp [hvs]
    · match ds, hl, hh with
      | [d], hl, hh =>
        match vs, hl with
        | [v], _ =>
          obtain ⟨u, h3, h4⟩ := hh 0 (by simp)
          have : v = u := by simpa using h3
          subst this
          exact h4
      | [], hl, hh => 
        match vs, hl with
        | [], _ => exact ⟨#[], rfl, rfl, fun i hi => absurd hi (by simp)⟩
      | d :: d2 :: l, hl, hh =>
        match vs, hl with
        | v :: v2 :: vs, hl => 
          refine ⟨(v :: v2 :: vs).toArray, by simp, by simpa using hl, fun i hi => ?_⟩
          obtain ⟨u, h3, h4⟩ := hh i hi
          exact ⟨u, by simpa using h3, h4⟩
theorem GoC.retL {rs : List ResultVar} {ds : List D} (hf : fn.results = rs.toArray) (h1 : ResL ⟨P, nt, w0, fps H0, I0, [], tb⟩ s rs ds) (ht : Take s.heap H' rest) (hp : post (tupD ds) H') :
    GoC ⟨P, nt, w0, fps H0, I0, [], tb⟩ fn (RetOk w0 I0 H0 post) .ret k s := ⟨fun I a w hs => wp_ret (Kont_ret (retL_body hf h1 ht hp (fun _ _ h => h) hs))⟩
theorem GoK.retL {rs : List ResultVar} {ds : List D} (hf : fn.results = rs.toArray) (h1 : ResL ⟨P, nt, w0, fps H0, I0, [], tb⟩ s rs ds) (ht : Take s.heap H' rest) (hp : post (tupD ds) H') :
    GoK ⟨P, nt, w0, fps H0, I0, [], tb⟩ fn (RetOk w0 I0 H0 post) [] s := ⟨fun I a w hs => retL_body hf h1 ht hp (fun _ _ h => h) hs⟩
def argEnv : Nat → List D → List (Nat × D)
  | _, [] => []
  | n, d :: l => (n, d) :: argEnv (n + 1) l
theorem look_argEnv {I : Nat → Prop} {w : World} : ∀ {l : List D} {vs : List Value} (n : Nat), RdL I w l vs → ∀ j e, look (argEnv n l) j = some e → n ≤ j ∧ ∃ v, vs[j - n]? = some v ∧ Rd I w e v
  | [], _, _, _, _, _, h => by cases h
  | d :: l, _, n, ⟨v, r, hv, h1, h2⟩, j, e, h => by
    subst hv
    by_cases hj : n = j
    · subst hj
      have e1 : Nat.beq n n = true := by simp
      simp only [argEnv, look, e1, cond_true, Option.some.injEq] at h
      subst h
      exact ⟨Nat.le_refl _, v, by simp, h1⟩
    · have e1 : Nat.beq n j = false := by rw [Bool.eq_false_iff]; exact fun e => hj (Nat.eq_of_beq_eq_true e)
      simp only [argEnv, look, e1, cond_false] at h
      obtain ⟨h3, u, h4, h5⟩ := look_argEnv (n + 1) h2 j e h
      refine ⟨by omega, u, ?_, h5⟩
      rw [show j - n = (j - (n + 1)) + 1 by omega]
      simpa using h4
theorem nil_fps {m : Nat → Prop} : ∀ b, fps [] b → ¬ m b := fun _ ⟨_, h, _⟩ => by cases h
theorem no_fps {A : List HL} : ∀ b, fps A b → ¬ fps [] b := fun _ _ ⟨_, h, _⟩ => by cases h
theorem RdL.length {I : Nat → Prop} {w : World} : ∀ {l : List D} {vs : List Value}, RdL I w l vs → vs.length = l.length
  | [], _, h => by rw [show _ = [] from h]; rfl
  | d :: l, _, ⟨v, r, e, _, h⟩ => by rw [e]; simp [RdL.length h]

/-- A function's contract, by a walk through its body. -/
theorem Does.intro {f : FuncId} {c : Code} {args : List D} (hf : P.funcs[f]? = some fn) (hb : fn.body = some c) (hn : fn.ntmps = nt) (ha : Nat.ble args.length nt = true)
    (h : ∀ w0 I0, ∀ tb : TB P w0 I0 H0, GoC ⟨P, nt, w0, fps H0, I0, [], tb⟩ fn (RetOk w0 I0 H0 post) c [] ⟨argEnv 0 args, H0⟩) : Does P f args H0 post := fun I w vs h1 h2 h3 h4 => by
  have hlen := RdL.length h1
  have hle := Nat.le_of_ble_eq_true ha
  refine calls_of_wp_defers hf hb (wp_mono (Q' := bodyPostD P fn _) (Q := bodyPostX ⟨P, nt, w, fps H0, I, [], ⟨h4, fun b hb => ⟨h3 b hb, fun hm => (h2.own b hm).1 hb⟩⟩⟩ fn _) ?_ fun e a w h => h.toD)
  refine ((h w I ⟨h4, fun b hb => ⟨h3 b hb, fun hm => (h2.own b hm).1 hb⟩⟩).run I _ w ⟨?_, rfl, fun j e hj => ?_, h2.ok, h2.sep, fun b hb => ⟨(h2.own b hb).1, .inr hb, (h2.own b hb).2⟩, fun b hb => ⟨h3 b hb, .inl hb⟩, fun _ h => h, Same.refl _ _⟩)
  · simp [hlen, hn]; omega
  · obtain ⟨_, v, h4, h5⟩ := look_argEnv 0 h1 j e hj
    have h6 : vs[j]? = some v := by simpa using h4
    have hj' : j < vs.length := (List.getElem?_eq_some_iff.1 h6).1
    have h7 : (vs.toArray ++ Array.replicate (fn.ntmps - vs.toArray.size) undef).getD j undef = v := by
      simp only [Array.getD_eq_getD_getElem?]
      rw [Array.getElem?_append_left (by simpa using hj')]
      simp [h6]
    rw [h7]
    exact h5
end
end Go.Proofs.Ytgkcmjmofcekmaa.Sx
