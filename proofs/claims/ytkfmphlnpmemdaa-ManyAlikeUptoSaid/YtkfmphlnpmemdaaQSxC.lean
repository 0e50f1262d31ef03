import Derived.Test.YtkfmphlnpmemdaaQSxB
import Derived.Deep.LoopGhost
set_option linter.unusedVariables false
set_option linter.unusedSimpArgs false
namespace Go.Proofs.Ytkfmphlnpmemdaa.Sx
open Go
def nth : List D → Nat → D
  | [], _ => .junk
  | d :: l, n => match n with
    | 0 => d
    | n + 1 => nth l n
def ints (xs : List Int) : C := ⟨xs.length, fun e _ => .v (.int .i64 (xs.getD e 0))⟩
def bools (xs : List Bool) : C := ⟨xs.length, fun e _ => .v (.bool (xs.getD e false))⟩
def st1 (g : Nat → D) : C := ⟨1, fun _ f => g f⟩
def lits (size n : Nat) (l : List D) : C := ⟨n, fun e f => nth l (e * size + f)⟩
structure Upd1 (size : Nat) (c : C) (e f : Nat) (q : D) (c' : C) : Prop where
  len : c'.len = c.len
  get : ∀ e' f', e' < c.len → f' < size → c'.get e' f' = if e' = e ∧ f' = f then q else c.get e' f'
structure UpdN (size : Nat) (c : C) (e f n : Nat) (q : Nat → D) (c' : C) : Prop where
  len : c'.len = c.len
  get : ∀ e' f', e' < c.len → f' < size → c'.get e' f' = if e' = e ∧ f ≤ f' ∧ f' < f + n then q (f' - f) else c.get e' f'
theorem Upd1.toN {size : Nat} {c c' : C} {e f : Nat} {q : D} (h : Upd1 size c e f q c') : UpdN size c e f 1 (fun _ => q) c' :=
  ⟨h.len, fun e' f' he hf => by
    rw [h.get e' f' he hf]
    by_cases h1 : e' = e ∧ f' = f
    · rw [if_pos h1, if_pos ⟨h1.1, by omega, by omega⟩]
    · rw [if_neg h1, if_neg (fun h2 => h1 ⟨h2.1, by omega⟩)]⟩
theorem getD_set {α : Type} (xs : List α) (e e' : Nat) (v z : α) (h : e' < xs.length) : (xs.set e v).getD e' z = if e' = e then v else xs.getD e' z := by
  simp only [List.getD_eq_getElem?_getD, List.getElem?_set]
  by_cases he : e = e'
  · subst he; simp [h]
  · simp [he, Ne.symm he]
@[simp] theorem ints_len (xs : List Int) : (ints xs).len = xs.length := rfl
@[simp] theorem bools_len (xs : List Bool) : (bools xs).len = xs.length := rfl
@[simp] theorem st1_len (g : Nat → D) : (st1 g).len = 1 := rfl
@[simp] theorem lits_len (size n : Nat) (l : List D) : (lits size n l).len = n := rfl
theorem upd_st1 {size f : Nat} {g : Nat → D} {q : D} : Upd1 size (st1 g) 0 f q (st1 fun f' => cond (Nat.beq f' f) q (g f')) :=
  ⟨rfl, fun e' f' he hf => by
    have he0 : e' = 0 := by simp only [st1] at he; omega
    subst he0
    simp only [st1]
    by_cases h : f' = f
    · subst h; simp
    · have : Nat.beq f' f = false := by rw [Bool.eq_false_iff]; exact fun e => h (Nat.eq_of_beq_eq_true e)
      simp [this, h]⟩
theorem upd_whole {size : Nat} {g q : Nat → D} : UpdN size (st1 g) 0 0 size q (st1 q) :=
  ⟨rfl, fun e' f' he hf => by
    have he0 : e' = 0 := by simp only [st1] at he; omega
    subst he0
    simp [st1, hf]⟩
def splice (cs : Array Value) (o : Nat) (vs : List Value) : Array Value := (cs.toList.take o ++ vs ++ cs.toList.drop (o + vs.length)).toArray
theorem size_splice (cs : Array Value) (o : Nat) (vs : List Value) (h : o + vs.length ≤ cs.size) : (splice cs o vs).size = cs.size := by
  simp [splice]; omega
theorem get_splice (cs : Array Value) (o : Nat) (vs : List Value) (h : o + vs.length ≤ cs.size) (j : Nat) :
    (splice cs o vs)[j]? = if o ≤ j ∧ j < o + vs.length then vs[j - o]? else cs[j]? := by
  have hl : (cs.toList.take o).length = o := by simp; omega
  simp only [splice, List.getElem?_toArray]
  by_cases h1 : j < o
  · rw [List.append_assoc, List.getElem?_append_left (by omega), if_neg (by omega), List.getElem?_take, if_pos h1]; simp
  · by_cases h2 : j < o + vs.length
    · rw [List.append_assoc, List.getElem?_append_right (by omega), hl, List.getElem?_append_left (by omega), if_pos ⟨by omega, h2⟩]
    · rw [List.getElem?_append_right (by simp; omega), if_neg (by omega), List.getElem?_drop]
      simp only [List.length_append, hl]
      rw [show o + vs.length + (j - (o + vs.length)) = j by omega]
      simp
theorem run_storeVar {P : Program} {w : World} {t te : TypeId} {n : Nat} {ag : Bool} [ht : TI P t n ag] {v : Value} (hv : v.cells.size = n) {g o : Nat} {cs : Array Value} (hg : w.heap[g]? = some (.cells cs te (0, 0)))
    (hfit : o + n ≤ cs.size) (h1 : ∀ u ∈ v.cells.toList, u.oneCell' = true) : (storeVar t ⟨g, o, none⟩ v).run P w = .ok () (w.setRow g (splice cs o v.cells.toList)) := by
  have hst := run_storeCells_at P g o te v.cells.toList 0 cs w hg (by simpa [hv] using hfit) h1
  simp only [storeVar, Sem.run_bind, ht.size, Result.andThen_ok, hv, ne_eq, not_true_eq_false, if_false]
  simpa [splice] using hst
theorem Same.setRow (w : World) (g : Nat) (cs : Array Value) : Same w (w.setRow g cs) (· = g) := ⟨rfl, rfl, rfl, by simp, fun k _ hm => setRow_other w g k cs hm⟩
theorem cell_unlike {size e e' f f' : Nat} (hf : f < size) (hf' : f' < size) (h : e * size + f = e' * size + f') : e = e' ∧ f = f' := by
  have h1 : (e * size + f) / size = e := by
    rw [Nat.mul_comm, Nat.mul_add_div (by omega), Nat.div_eq_of_lt hf, Nat.add_zero]
  have h2 : (e' * size + f') / size = e' := by
    rw [Nat.mul_comm, Nat.mul_add_div (by omega), Nat.div_eq_of_lt hf', Nat.add_zero]
  have : e = e' := by rw [← h1, ← h2, h]
  subst this
  exact ⟨rfl, by omega⟩
theorem le_cells {size s e f : Nat} (he : e < s) (hf : f ≤ size) : e * size + f ≤ s * size := by
  have := Nat.mul_le_mul_right size (show e + 1 ≤ s by omega)
  rw [Nat.add_mul] at this
  omega
theorem BOk.store {I : Nat → Prop} {w : World} {β : BK} {t : TypeId} {size : Nat} {c c' : C} (h : BOk I w β t size c) {e f n : Nat} {q : Nat → D} (hu : UpdN size c e f n q c') (he : e < c.len) (hf : f + n ≤ size) {vs : List Value}
    (hn : vs.length = n) (hv : ∀ j, j < n → ∃ u, vs[j]? = some u ∧ u.oneCell' = true ∧ Rd I w (q j) u) (hI : ¬ I β.b) :
    ∃ cs, w.heap[β.b]? = some (.cells cs t (0, 0)) ∧ β.o + (e * size + f) + n ≤ cs.size ∧ BOk I (w.setRow β.b (splice cs (β.o + (e * size + f)) vs)) β t size c' := by
  obtain ⟨h0, h1⟩ := h
  obtain ⟨cs, hc, hsz, hget⟩ := h1 (by omega)
  have hle := le_cells (s := β.s) (size := size) (e := e) (f := f + n) (by omega) hf
  have hfit : β.o + (e * size + f) + vs.length ≤ cs.size := by rw [hn, hsz]; omega
  refine ⟨cs, hc, by rw [← hn]; exact hfit, by rw [hu.len]; exact h0, fun _ => ⟨splice cs (β.o + (e * size + f)) vs, setRow_heap w β.b cs _ t (0, 0) hc, by rw [size_splice _ _ _ hfit, hsz], fun e' he' f' hf' => ?_⟩⟩
  rw [hu.len] at he'
  have hmono : ∀ d u, Rd I w d u → Rd I (w.setRow β.b (splice cs (β.o + (e * size + f)) vs)) d u :=
    fun d u hr => hr.mono (fun _ h => h) (fun b hb => setRow_other w β.b b _ (fun e => hI (e ▸ hb)))
  rw [get_splice _ _ _ hfit, hu.get e' f' he' hf', hn]
  by_cases hh : e' = e ∧ f ≤ f' ∧ f' < f + n
  · obtain ⟨rfl, h3, h4⟩ := hh
    obtain ⟨u, hu1, hu2, hu3⟩ := hv (f' - f) (by omega)
    rw [if_pos ⟨by omega, by omega⟩, if_pos ⟨rfl, h3, h4⟩]
    exact ⟨u, by rw [show β.o + (e' * size + f') - (β.o + (e' * size + f)) = f' - f by omega]; exact hu1, hu2, hmono _ _ hu3⟩
  · obtain ⟨u, hu1, hu2, hu3⟩ := hget e' he' f' hf'
    rw [if_neg hh, if_neg]
    · exact ⟨u, hu1, hu2, hmono _ _ hu3⟩
    · intro ⟨h3, h4⟩
      have hk : e' * size + f' = e * size + (f + (e' * size + f' - (e * size + f))) := by omega
      obtain ⟨h5, h6⟩ := cell_unlike hf' (by omega) hk
      exact hh ⟨h5, by omega, by omega⟩
def D.one : D → Bool
  | .v x => x.oneCell'
  | .ag _ _ => false
  | .tp _ _ => false
  | .junk => false
  | _ => true
theorem D.one_ok {q : D} (h : q.one = true) {I : Nat → Prop} {w : World} {v : Value} (hr : Rd I w q v) : v.oneCell' = true := by
  cases q with
  | v x => cases hr; exact h
  | sl size len get => obtain ⟨_, _, rfl, _⟩ := hr; rfl
  | e0 => obtain ⟨_, rfl⟩ := hr; rfl
  | ag n get => cases h
  | tp n get => cases h
  | own β size r len => obtain ⟨_, _, rfl, _⟩ := hr; rfl
  | ptr β size e f => cases hr; rfl
  | rp size len get e f => obtain ⟨_, _, rfl, _⟩ := hr; rfl
  | fn f n get => obtain ⟨_, rfl, _⟩ := hr; rfl
  | self f n get j => obtain ⟨_, _, _, rfl, _⟩ := hr; rfl
  | selfp f n get j => obtain ⟨_, _, _, rfl, _⟩ := hr; rfl
  | junk => cases h
theorem cells_one {v : Value} (h : v.oneCell' = true) : v.cells = #[v] := by cases v <;> first | rfl | cases h
def Eff (X : Cx) (o : Oper) (s : St) (wr : List HL) (next : St → Prop) : Prop :=
  ∀ I a w, Sat X I s a w → ∀ Q, o.wp X.P a w (fun a' w' => Same w w' (fps wr) ∧ ∃ s', next s' ∧ Sat X I s' a' w') Q
theorem wp_val {P : Program} {o : Oper} {a : Act} {w w' : World} {v : Value} {K : Act → World → Prop} {Q : Exit → Act → World → Prop} (hr : (execOp a.eval o).run P w = .ok (.value v) w') (h : K (a.put o.dst v) w') : o.wp P a w K Q := by
  unfold Oper.wp
  rw [hr]
  exact h
theorem wp_skip0 {P : Program} {o : Oper} {a : Act} {w w' : World} {K : Act → World → Prop} {Q : Exit → Act → World → Prop} (hr : (execOp a.eval o).run P w = .ok .skip w') (h : K (a.put o.dst undef) w') : o.wp P a w K Q := by
  unfold Oper.wp
  rw [hr]
  exact h
theorem fps_one {x : HL} {b : Nat} (h : x.fp b) : fps [x] b := ⟨x, List.mem_singleton.2 rfl, h⟩
section
variable {X : Cx} {fn : Func} {R : Ending → World → Prop} {k : List It} {s : St} {all : Array Oper} {os : List Oper} {d : Tmp} {ty : TypeId} {pos : String} {aft : Array Edge} {gd : Option (Nat × Bool)} {x y : Operand} {q : D}
theorem ef_store {β : BK} {size e f : Nat} {t te : TypeId} {c c' : C} {H : List HL} [ht : TI X.P t 1 false] (hx : s.ev x = some (.ptr β size e f)) (hy : s.ev y = some q) (hq : q.one = true)
    (hm : At s.heap (.one β te size c) (.one β te size c') H) (hu : Upd1 size c e f q c') (he : e < c.len) (hf : Nat.blt f size = true) :
    Eff X ⟨none, .store t x y, ty, pos, aft, gd⟩ s [.one β te size c] (fun s2 => s2 = ⟨s.env, H⟩) := fun I a w hs Q => by
  have hv : a.eval x = .pointer (some ⟨β.b, β.o + (e * size + f), none⟩) := hs.ev hx
  have hr := hs.ev hy
  have ho := D.one_ok hq hr
  have hb : BOk I w β te size c := hs.heap _ hm.mem
  have hpos : 0 < β.s := by have := hb.1; omega
  have hown := hs.own β.b ⟨_, hm.mem, hpos, rfl⟩
  obtain ⟨cs, hg, hfit, hb'⟩ := hb.store hu.toN he (blt_lt hf) (vs := [a.eval y]) rfl (fun j hj => ⟨a.eval y, by simp [show j = 0 by omega], ho, hr⟩) hown.1
  have hrun := run_storeVar (P := X.P) (w := w) (t := t) (v := a.eval y) (by rw [cells_one ho]; rfl) hg hfit (by rw [cells_one ho]; simpa using ho)
  rw [cells_one ho] at hrun
  have hsame : Same w (w.setRow β.b (splice cs (β.o + (e * size + f)) [a.eval y])) (HL.one β te size c).fp := (Same.setRow w β.b _).mono fun i hi => ⟨hpos, hi⟩
  refine wp_skip0 (w' := w.setRow β.b (splice cs (β.o + (e * size + f)) [a.eval y])) ?_ ⟨hsame.mono fun i hi => fps_one hi, _, rfl, ?_⟩
  · simp only [execOp, Instr.storeAt, Instr.sureAddr, hv, Sem.run_bind, Sem.run_pure, Result.andThen_ok, hrun]
  · exact hs.turn hm hsame hb' fun b hb => ⟨.inl hb, by rw [hb.2]; simpa using hown.2.2⟩
theorem ef_storeAg {β : BK} {size e f n : Nat} {g : Nat → D} {t te : TypeId} {c c' : C} {H : List HL} [ht : TI X.P t n true] (hx : s.ev x = some (.ptr β size e f)) (hy : s.ev y = some (.ag n g))
    (hm : At s.heap (.one β te size c) (.one β te size c') H) (hu : UpdN size c e f n g c') (he : e < c.len) (hf : Nat.ble (f + n) size = true) :
    Eff X ⟨none, .store t x y, ty, pos, aft, gd⟩ s [.one β te size c] (fun s2 => s2 = ⟨s.env, H⟩) := fun I a w hs Q => by
  have hv : a.eval x = .pointer (some ⟨β.b, β.o + (e * size + f), none⟩) := hs.ev hx
  obtain ⟨vs, hvs, hsz, hr⟩ := hs.ev hy
  have hb : BOk I w β te size c := hs.heap _ hm.mem
  have hpos : 0 < β.s := by have := hb.1; omega
  have hown := hs.own β.b ⟨_, hm.mem, hpos, rfl⟩
  obtain ⟨cs, hg, hfit, hb'⟩ := hb.store hu he (Nat.le_of_ble_eq_true hf) (vs := vs.toList) (by simpa using hsz) (fun j hj => by
    obtain ⟨u, h1, h2, h3⟩ := hr j hj
    exact ⟨u, by simpa using h1, h2, h3⟩) hown.1
  have hrun := run_storeVar (P := X.P) (w := w) (t := t) (v := .agg vs) hsz hg hfit (fun u hu => by
    obtain ⟨j, hj⟩ := List.mem_iff_getElem?.1 hu
    have hj' : vs[j]? = some u := by simpa [Value.cells] using hj
    have hjn : j < n := by
      have := (Array.getElem?_eq_some_iff.1 hj').1
      omega
    obtain ⟨u', h1, h2, _⟩ := hr j hjn
    rw [hj'] at h1
    cases h1
    exact h2)
  have hsame : Same w (w.setRow β.b (splice cs (β.o + (e * size + f)) vs.toList)) (HL.one β te size c).fp := (Same.setRow w β.b _).mono fun i hi => ⟨hpos, hi⟩
  refine wp_skip0 (w' := w.setRow β.b (splice cs (β.o + (e * size + f)) vs.toList)) ?_ ⟨hsame.mono fun i hi => fps_one hi, _, rfl, ?_⟩
  · simp only [execOp, Instr.storeAt, Instr.sureAddr, hv, hvs, Sem.run_bind, Sem.run_pure, Result.andThen_ok, hrun, Value.cells]
  · exact hs.turn hm hsame hb' fun b hb => ⟨.inl hb, by rw [hb.2]; simpa using hown.2.2⟩
theorem At.p0 {x y : HL} {l : List HL} : At (x :: l) x y (y :: l) := At.head _ _ _
theorem At.p1 {z0 x y : HL} {l : List HL} : At (z0 :: x :: l) x y (z0 :: y :: l) := At.tail _ _ _ _ _ (At.head _ _ _)
theorem At.p2 {z0 z1 x y : HL} {l : List HL} : At (z0 :: z1 :: x :: l) x y (z0 :: z1 :: y :: l) := At.tail _ _ _ _ _ (At.tail _ _ _ _ _ (At.head _ _ _))
theorem At.p3 {z0 z1 z2 x y : HL} {l : List HL} : At (z0 :: z1 :: z2 :: x :: l) x y (z0 :: z1 :: z2 :: y :: l) := At.tail _ _ _ _ _ (At.tail _ _ _ _ _ (At.tail _ _ _ _ _ (At.head _ _ _)))
theorem At.p4 {z0 z1 z2 z3 x y : HL} {l : List HL} : At (z0 :: z1 :: z2 :: z3 :: x :: l) x y (z0 :: z1 :: z2 :: z3 :: y :: l) := At.tail _ _ _ _ _ (At.tail _ _ _ _ _ (At.tail _ _ _ _ _ (At.tail _ _ _ _ _ (At.head _ _ _))))
theorem At.p5 {z0 z1 z2 z3 z4 x y : HL} {l : List HL} : At (z0 :: z1 :: z2 :: z3 :: z4 :: x :: l) x y (z0 :: z1 :: z2 :: z3 :: z4 :: y :: l) := At.tail _ _ _ _ _ (At.tail _ _ _ _ _ (At.tail _ _ _ _ _ (At.tail _ _ _ _ _ (At.tail _ _ _ _ _ (At.head _ _ _)))))
theorem At.p6 {z0 z1 z2 z3 z4 z5 x y : HL} {l : List HL} : At (z0 :: z1 :: z2 :: z3 :: z4 :: z5 :: x :: l) x y (z0 :: z1 :: z2 :: z3 :: z4 :: z5 :: y :: l) := At.tail _ _ _ _ _ (At.tail _ _ _ _ _ (At.tail _ _ _ _ _ (At.tail _ _ _ _ _ (At.tail _ _ _ _ _ (At.tail _ _ _ _ _ (At.head _ _ _))))))
theorem At.p7 {z0 z1 z2 z3 z4 z5 z6 x y : HL} {l : List HL} : At (z0 :: z1 :: z2 :: z3 :: z4 :: z5 :: z6 :: x :: l) x y (z0 :: z1 :: z2 :: z3 :: z4 :: z5 :: z6 :: y :: l) := At.tail _ _ _ _ _ (At.tail _ _ _ _ _ (At.tail _ _ _ _ _ (At.tail _ _ _ _ _ (At.tail _ _ _ _ _ (At.tail _ _ _ _ _ (At.tail _ _ _ _ _ (At.head _ _ _)))))))
theorem At.p8 {z0 z1 z2 z3 z4 z5 z6 z7 x y : HL} {l : List HL} : At (z0 :: z1 :: z2 :: z3 :: z4 :: z5 :: z6 :: z7 :: x :: l) x y (z0 :: z1 :: z2 :: z3 :: z4 :: z5 :: z6 :: z7 :: y :: l) := At.tail _ _ _ _ _ (At.tail _ _ _ _ _ (At.tail _ _ _ _ _ (At.tail _ _ _ _ _ (At.tail _ _ _ _ _ (At.tail _ _ _ _ _ (At.tail _ _ _ _ _ (At.tail _ _ _ _ _ (At.head _ _ _))))))))
theorem At.p9 {z0 z1 z2 z3 z4 z5 z6 z7 z8 x y : HL} {l : List HL} : At (z0 :: z1 :: z2 :: z3 :: z4 :: z5 :: z6 :: z7 :: z8 :: x :: l) x y (z0 :: z1 :: z2 :: z3 :: z4 :: z5 :: z6 :: z7 :: z8 :: y :: l) := At.tail _ _ _ _ _ (At.tail _ _ _ _ _ (At.tail _ _ _ _ _ (At.tail _ _ _ _ _ (At.tail _ _ _ _ _ (At.tail _ _ _ _ _ (At.tail _ _ _ _ _ (At.tail _ _ _ _ _ (At.tail _ _ _ _ _ (At.head _ _ _)))))))))
class ZI (P : Program) (t : TypeId) (size : outParam Nat) (bytes : outParam Nat) (z : outParam Value) : Prop where
  h : ∃ i, P.info? t = some i ∧ i.zero = some z ∧ i.size = size ∧ i.bytes = bytes ∧ z.cells.size = size ∧ (∀ u ∈ z.cells.toList, u.oneCell' = true)
theorem ZI.of {P : Program} {t : TypeId} {size bytes : Nat} {z : Value} (h : (P.info? t).map (fun i => (i.zero, i.size, i.bytes)) = some (some z, size, bytes)) (h1 : z.cells.size = size) (h2 : z.cells.toList.all (·.oneCell') = true) : ZI P t size bytes z where
  h := by
    cases hi : P.info? t with
    | none => simp [hi] at h
    | some i =>
      simp [hi] at h
      exact ⟨i, rfl, h.1, h.2.1, h.2.2, h1, List.all_eq_true.1 h2⟩
theorem heap_new (w : World) (o : Obj) : (w.alloc o).heap[w.heap.size]? = some o := heap_alloc_new w o
theorem BOk.fresh (I : Nat → Prop) (w : World) (cs : Array Value) (t : TypeId) (s size : Nat) (c : C) (hs : cs.size = s * size) (hl : c.len ≤ s)
    (h : ∀ e, e < c.len → ∀ f, f < size → ∃ u, cs[e * size + f]? = some u ∧ u.oneCell' = true ∧ Rd I w (c.get e f) u) (hI : ∀ b, I b → b < w.heap.size) : BOk I (w.alloc (.cells cs t)) ⟨w.heap.size, 0, s⟩ t size c :=
  ⟨hl, fun _ => ⟨cs, heap_new w _, by simpa using hs, fun e he f hf => by
    obtain ⟨u, h1, h2, h3⟩ := h e he f hf
    exact ⟨u, by simpa using h1, h2, h3.mono (fun _ h => h) fun b hb => Go.RowKit.Below.heap_alloc w _ b (hI b hb)⟩⟩⟩
theorem Sat.fresh {I : Nat → Prop} {a : Act} {w : World} (hs : Sat X I s a w) (cs : Array Value) (t : TypeId) (sz size : Nat) (c : C) (h1 : cs.size = sz * size) (h2 : c.len ≤ sz)
    (h : ∀ e, e < c.len → ∀ f, f < size → ∃ u, cs[e * size + f]? = some u ∧ u.oneCell' = true ∧ Rd I w (c.get e f) u) :
    Sat X I ⟨s.env, .one ⟨w.heap.size, 0, sz⟩ t size c :: s.heap⟩ a (w.alloc (.cells cs t)) :=
  hs.new (Same.alloc w _ _) _ (BOk.fresh I w cs t sz size c h1 h2 h fun b hb => (hs.imm b hb).1) fun b hb => by
    obtain ⟨_, rfl⟩ := hb
    simp
theorem rd_ptr0 {I : Nat → Prop} {w : World} (g size : Nat) : Rd I w (.ptr ⟨g, 0, 1⟩ size 0 0) (.pointer (some ⟨g, 0, none⟩)) := by show _ = _; simp
theorem ef_alloc {t : TypeId} {size bytes : Nat} {z : Value} [hz : ZI X.P t size bytes z] (hd : Nat.blt d X.nt = true) :
    Eff X ⟨some d, .alloc t, ty, pos, aft, gd⟩ s [] (fun s2 => ∃ β : BK, s2 = ⟨(d, .ptr β size 0 0) :: s.env, .one β t size (st1 fun f => .v (z.cells.getD f undef)) :: s.heap⟩) := fun I a w hs Q => by
  obtain ⟨i, h1, h2, h3, h4, h5, h6⟩ := hz.h
  refine wp_val (v := .pointer (some ⟨w.heap.size, 0, none⟩)) (w' := w.alloc (.cells z.cells t)) ?_ ⟨Same.alloc w _ _, _, ⟨⟨w.heap.size, 0, 1⟩, rfl⟩, ?_⟩
  · simp [execOp, Instr.alloc, zeroValue, typeInfo, h1, h2, newVar, newRow]
  · refine (hs.fresh z.cells t 1 size _ (by rw [h5]; omega) (Nat.le_refl _) fun e he f hf => ?_).put (blt_lt hd) (rd_ptr0 _ _)
    have he0 : e = 0 := by simp only [st1] at he; omega
    subst he0
    have hlt : f < z.cells.size := by omega
    refine ⟨z.cells[f], by simp [hlt], h6 _ (by simp), ?_⟩
    show z.cells[f] = z.cells.getD f undef
    simp [hlt]
theorem ef_box {t : TypeId} {n : Nat} {ag : Bool} [ht : TI X.P t n ag] (hx : s.ev x = some q) (hq : q.one = true) (hd : Nat.blt d X.nt = true) :
    Eff X ⟨some d, .box t x, ty, pos, aft, gd⟩ s [] (fun s2 => ∃ β : BK, s2 = ⟨(d, .ptr β 1 0 0) :: s.env, .one β t 1 (st1 fun _ => q) :: s.heap⟩) := fun I a w hs Q => by
  have hr := hs.ev hx
  have ho := D.one_ok hq hr
  refine wp_val (v := .pointer (some ⟨w.heap.size, 0, none⟩)) (w' := w.alloc (.cells #[a.eval x] t)) ?_ ⟨Same.alloc w _ _, _, ⟨⟨w.heap.size, 0, 1⟩, rfl⟩, ?_⟩
  · simp [execOp, Instr.box, newVar, newRow, cells_one ho]
  · refine (hs.fresh #[a.eval x] t 1 1 _ rfl (Nat.le_refl _) fun e he f hf => ?_).put (blt_lt hd) rfl
    have he0 : e = 0 := by simp only [st1] at he; omega
    have hf0 : f = 0 := by omega
    subst he0 hf0
    exact ⟨a.eval x, rfl, ho, hr⟩
theorem ef_boxAg {t : TypeId} {n : Nat} {g : Nat → D} (hx : s.ev x = some (.ag n g)) (hd : Nat.blt d X.nt = true) :
    Eff X ⟨some d, .box t x, ty, pos, aft, gd⟩ s [] (fun s2 => ∃ β : BK, s2 = ⟨(d, .ptr β n 0 0) :: s.env, .one β t n (st1 g) :: s.heap⟩) := fun I a w hs Q => by
  obtain ⟨vs, hvs, hsz, hr⟩ := hs.ev hx
  refine wp_val (v := .pointer (some ⟨w.heap.size, 0, none⟩)) (w' := w.alloc (.cells vs t)) ?_ ⟨Same.alloc w _ _, _, ⟨⟨w.heap.size, 0, 1⟩, rfl⟩, ?_⟩
  · simp [execOp, Instr.box, newVar, newRow, hvs, Value.cells]
  · refine (hs.fresh vs t 1 n _ (by omega) (Nat.le_refl _) fun e he f hf => ?_).put (blt_lt hd) (rd_ptr0 _ _)
    have he0 : e = 0 := by simp only [st1] at he; omega
    subst he0
    obtain ⟨u, h1, h2, h3⟩ := hr f hf
    exact ⟨u, by simpa using h1, h2, h3⟩
class ZC (P : Program) (t : TypeId) (size : outParam Nat) (bytes : outParam Nat) (mk : outParam (Nat → C)) : Prop where
  h : ∃ z, ZI P t size bytes z ∧ ∀ n, (mk n).len = n ∧ ∀ e f, e < n → f < size → (mk n).get e f = .v (z.cells.getD f undef)
theorem get_madeCells {z : Array Value} {n size : Nat} (hs : z.size = size) {e f : Nat} (he : e < n) (hf : f < size) : (madeCells z (n * size))[e * size + f]? = some (z.getD f undef) := by
  have hlt : e * size + f < n * size := by have := le_cells (s := n) (size := size) (e := e) (f := f + 1) he (by omega); omega
  have hm : (e * size + f) % size = f := by rw [Nat.mul_comm, Nat.mul_add_mod, Nat.mod_eq_of_lt hf]
  have hf' : f < z.size := by omega
  have e : z[f]! = z[f]?.getD undef := by rw [getElem!_pos z f hf']; simp [hf']
  simp [madeCells, hlt, hs, hm, e]
theorem ef_make {t e : TypeId} {size bytes : Nat} {mk : Nat → C} {m : Int} [ht : SlT X.P t e] [hz : ZC X.P e size bytes mk] (hx : s.ev x = some (.v (.int .i64 m))) (hy : s.ev y = some (.v (.int .i64 m))) (h0 : 0 ≤ m) (hm : m * bytes ≤ 1000000000000)
    (hd : Nat.blt d X.nt = true) (hb1 : Nat.blt 0 bytes = true) :
    Eff X ⟨some d, .makeSlice t x y, ty, pos, aft, gd⟩ s [] (fun s2 => ∃ β : BK, s2 = ⟨(d, .own β size 0 m.toNat) :: s.env, .one β e size (mk m.toNat) :: s.heap⟩) := fun I a w hs Q => by
  obtain ⟨z, ⟨i, h1, h2, h3, h4, h5, h6⟩, hmk⟩ := hz.h
  have ex : a.eval x = .int .i64 m := hs.ev hx
  have ey : a.eval y = .int .i64 m := hs.ev hy
  have hbb := blt_lt hb1
  have hmb : m ≤ m * bytes := by
    have : m * 1 ≤ m * (bytes : Int) := Int.mul_le_mul_of_nonneg_left (by omega) h0
    omega
  have hr := run_make (P := X.P) w t e i z ht.h h1 h2 .i64 .i64 m m h0 (Int.le_refl _) (by rw [h4, Int.mul_comm]; omega) (by omega)
  refine wp_val (v := .slice (some ⟨w.heap.size, 0, none⟩) m.toNat m.toNat) (w' := w.alloc (.cells (madeCells z.cells (m.toNat * i.size)) e)) ?_ ⟨Same.alloc w _ _, _, ⟨⟨w.heap.size, 0, m.toNat⟩, rfl⟩, ?_⟩
  · simp only [execOp, ex, ey, Sem.run_bind, hr, Result.andThen_ok, Sem.run_pure]
  · obtain ⟨g1, g2⟩ := hmk m.toNat
    refine (hs.fresh _ e m.toNat size (mk m.toNat) (by rw [size_madeCells, h3]) (by rw [g1]; exact Nat.le_refl _) fun e' he' f hf => ?_).put (blt_lt hd) ?_
    · rw [g1] at he'
      rw [h3, get_madeCells h5 he' hf, g2 e' f he' hf]
      have hlt : f < z.cells.size := by omega
      refine ⟨_, rfl, ?_, rfl⟩
      rw [show z.cells.getD f undef = z.cells[f] by simp [hlt]]
      exact h6 _ (by simp)
    · refine ⟨some ⟨w.heap.size, 0, none⟩, m.toNat, rfl, Nat.le_refl _, ?_, by simp, fun _ => by simp⟩
      unfold maxLen
      omega
end
inductive Rem : List HL → HL → List HL → Prop
  | head (x : HL) (l : List HL) : Rem (x :: l) x l
  | tail (z x : HL) (l l' : List HL) (h : Rem l x l') : Rem (z :: l) x (z :: l')
inductive Take : List HL → List HL → List HL → Prop
  | nil (l : List HL) : Take l [] l
  | cons (l m r : List HL) (x : HL) (A : List HL) (h : Rem l x m) (h' : Take m A r) : Take l (x :: A) r
theorem Rem.perm {l l' : List HL} {x : HL} (h : Rem l x l') : l.Perm (x :: l') := by
  induction h with
  | head => exact .refl _
  | tail z x l l' _ ih => exact (ih.cons z).trans (.swap _ _ _)
theorem Take.perm {l A r : List HL} (h : Take l A r) : l.Perm (A ++ r) := by
  induction h with
  | nil => exact .refl _
  | cons l m r x A h _ ih => exact h.perm.trans (ih.cons x)
theorem Rem.p0 {x : HL} {l : List HL} : Rem (x :: l) x (l) := Rem.head _ _
theorem Rem.p1 {z0 x : HL} {l : List HL} : Rem (z0 :: x :: l) x (z0 :: l) := Rem.tail _ _ _ _ (Rem.head _ _)
theorem Rem.p2 {z0 z1 x : HL} {l : List HL} : Rem (z0 :: z1 :: x :: l) x (z0 :: z1 :: l) := Rem.tail _ _ _ _ (Rem.tail _ _ _ _ (Rem.head _ _))
theorem Rem.p3 {z0 z1 z2 x : HL} {l : List HL} : Rem (z0 :: z1 :: z2 :: x :: l) x (z0 :: z1 :: z2 :: l) := Rem.tail _ _ _ _ (Rem.tail _ _ _ _ (Rem.tail _ _ _ _ (Rem.head _ _)))
theorem Rem.p4 {z0 z1 z2 z3 x : HL} {l : List HL} : Rem (z0 :: z1 :: z2 :: z3 :: x :: l) x (z0 :: z1 :: z2 :: z3 :: l) := Rem.tail _ _ _ _ (Rem.tail _ _ _ _ (Rem.tail _ _ _ _ (Rem.tail _ _ _ _ (Rem.head _ _))))
theorem Rem.p5 {z0 z1 z2 z3 z4 x : HL} {l : List HL} : Rem (z0 :: z1 :: z2 :: z3 :: z4 :: x :: l) x (z0 :: z1 :: z2 :: z3 :: z4 :: l) := Rem.tail _ _ _ _ (Rem.tail _ _ _ _ (Rem.tail _ _ _ _ (Rem.tail _ _ _ _ (Rem.tail _ _ _ _ (Rem.head _ _)))))
theorem Rem.p6 {z0 z1 z2 z3 z4 z5 x : HL} {l : List HL} : Rem (z0 :: z1 :: z2 :: z3 :: z4 :: z5 :: x :: l) x (z0 :: z1 :: z2 :: z3 :: z4 :: z5 :: l) := Rem.tail _ _ _ _ (Rem.tail _ _ _ _ (Rem.tail _ _ _ _ (Rem.tail _ _ _ _ (Rem.tail _ _ _ _ (Rem.tail _ _ _ _ (Rem.head _ _))))))
theorem Rem.p7 {z0 z1 z2 z3 z4 z5 z6 x : HL} {l : List HL} : Rem (z0 :: z1 :: z2 :: z3 :: z4 :: z5 :: z6 :: x :: l) x (z0 :: z1 :: z2 :: z3 :: z4 :: z5 :: z6 :: l) := Rem.tail _ _ _ _ (Rem.tail _ _ _ _ (Rem.tail _ _ _ _ (Rem.tail _ _ _ _ (Rem.tail _ _ _ _ (Rem.tail _ _ _ _ (Rem.tail _ _ _ _ (Rem.head _ _)))))))
theorem Rem.p8 {z0 z1 z2 z3 z4 z5 z6 z7 x : HL} {l : List HL} : Rem (z0 :: z1 :: z2 :: z3 :: z4 :: z5 :: z6 :: z7 :: x :: l) x (z0 :: z1 :: z2 :: z3 :: z4 :: z5 :: z6 :: z7 :: l) := Rem.tail _ _ _ _ (Rem.tail _ _ _ _ (Rem.tail _ _ _ _ (Rem.tail _ _ _ _ (Rem.tail _ _ _ _ (Rem.tail _ _ _ _ (Rem.tail _ _ _ _ (Rem.tail _ _ _ _ (Rem.head _ _))))))))
theorem Rem.p9 {z0 z1 z2 z3 z4 z5 z6 z7 z8 x : HL} {l : List HL} : Rem (z0 :: z1 :: z2 :: z3 :: z4 :: z5 :: z6 :: z7 :: z8 :: x :: l) x (z0 :: z1 :: z2 :: z3 :: z4 :: z5 :: z6 :: z7 :: z8 :: l) := Rem.tail _ _ _ _ (Rem.tail _ _ _ _ (Rem.tail _ _ _ _ (Rem.tail _ _ _ _ (Rem.tail _ _ _ _ (Rem.tail _ _ _ _ (Rem.tail _ _ _ _ (Rem.tail _ _ _ _ (Rem.tail _ _ _ _ (Rem.head _ _)))))))))
theorem sep_perm {l l' : List HL} (h : l.Perm l') (hs : Sep l) : Sep l' := (h.pairwise_iff (fun hab b hb ha => hab b ha hb)).1 hs
theorem fps_perm {l l' : List HL} (h : l.Perm l') (b : Nat) : fps l b ↔ fps l' b :=
  ⟨fun ⟨x, hx, hb⟩ => ⟨x, h.mem_iff.1 hx, hb⟩, fun ⟨x, hx, hb⟩ => ⟨x, h.mem_iff.2 hx, hb⟩⟩
def Le (s s' : St) : Prop := ∀ X I a w, Sat X I s a w → Sat X I s' a w
def EnvLeW (env : List (Nat × D)) : List Nat → List (Nat × D) → Prop
  | _, [] => True
  | seen, (k, d) :: r => (seen.any (Nat.beq k) = true ∨ look env k = some d) ∧ EnvLeW env (k :: seen) r
theorem EnvLeW.nil {env : List (Nat × D)} {seen : List Nat} : EnvLeW env seen [] := trivial
theorem EnvLeW.cons {env r : List (Nat × D)} {seen : List Nat} {k : Nat} {d : D} (h : Sx.look env k = some d) (h' : EnvLeW env (k :: seen) r) : EnvLeW env seen ((k, d) :: r) := ⟨.inr h, h'⟩
theorem EnvLeW.skip {env r : List (Nat × D)} {seen : List Nat} {k : Nat} {d : D} (h : seen.any (Nat.beq k) = true) (h' : EnvLeW env (k :: seen) r) : EnvLeW env seen ((k, d) :: r) := ⟨.inl h, h'⟩
theorem EnvLeW.look {env : List (Nat × D)} : ∀ {env' : List (Nat × D)} {seen : List Nat}, EnvLeW env seen env' → ∀ k d, k ∉ seen → look env' k = some d → look env k = some d
  | [], _, _, _, _, _, h => by cases h
  | (j, e) :: r, seen, h, k, d, hk, hl => by
    by_cases hj : j = k
    · subst hj
      have h1 : Nat.beq j j = true := by simp
      simp only [Sx.look, h1, cond_true, Option.some.injEq] at hl
      subst hl
      rcases h.1 with h2 | h2
      · obtain ⟨x, hx, hxj⟩ := List.any_eq_true.1 h2
        exact absurd (Nat.eq_of_beq_eq_true hxj ▸ hx) hk
      · exact h2
    · have h1 : Nat.beq j k = false := by rw [Bool.eq_false_iff]; exact fun e => hj (Nat.eq_of_beq_eq_true e)
      simp only [Sx.look, h1, cond_false] at hl
      refine EnvLeW.look h.2 k d (fun hm => ?_) hl
      rcases List.mem_cons.1 hm with e | e
      · exact hj e.symm
      · exact hk e
section
variable {X : Cx} {fn : Func} {R : Ending → World → Prop} {k : List It} {s s' : St}
end
def pick (env : List (Nat × D)) : List Nat → List (Nat × D)
  | [] => []
  | k :: ks => match look env k with
    | some d => (k, d) :: pick env ks
    | none => pick env ks
section
variable {X : Cx} {fn : Func} {R : Ending → World → Prop} {k : List It} {s : St}
end
def RdL (I : Nat → Prop) (w : World) : List D → List Value → Prop
  | [], vs => vs = []
  | d :: ds, vs => ∃ v r, vs = v :: r ∧ Rd I w d v ∧ RdL I w ds r
structure HOk (I : Nat → Prop) (w : World) (H : List HL) : Prop where
  ok : ∀ h, h ∈ H → h.ok I w
  sep : Sep H
  own : ∀ b, fps H b → ¬ I b ∧ b < w.heap.size
def No : Nat → Prop := fun _ => False
def Or' (I N : Nat → Prop) : Nat → Prop := fun b => I b ∨ N b
def Lend (H : List HL) (d d' : D) : Prop := ∀ I w v, (∀ h, h ∈ H → h.ok I w) → Rd I w d v → Rd (fun b => I b ∨ fps H b) w d' v
theorem Lend.refl (H : List HL) (d : D) : Lend H d d := fun _ _ _ _ hr => hr.mono (fun _ h => .inl h) (fun _ _ => rfl)
theorem Lend.own {H : List HL} {β : BK} {t : TypeId} {size r len : Nat} {c : C} {H' : List HL} (hm : At H (.one β t size c) (.one β t size c) H') (hl : r + len ≤ c.len) : Lend H (.own β size r len) (.sl size len fun e f => c.get (e + r) f) := by
  rintro I w v hok ⟨a, cap, rfl, h1, h2, h3, h4⟩
  refine ⟨a, cap, rfl, h1, h2, fun h0 => ⟨β.b, β.o + r * size, h4 (by omega), .inr ⟨_, hm.mem, by omega, rfl⟩, fun e he f hf => ?_⟩⟩
  have hb : BOk I w β t size c := hok _ hm.mem
  obtain ⟨u, hu, ho, hr⟩ := hb.cell (show e + r < c.len by omega) hf
  exact ⟨u, by rw [show β.o + r * size + (e * size + f) = β.o + ((e + r) * size + f) by rw [Nat.add_mul]; omega]; exact hu, ho, hr.mono (fun _ h => .inl h) fun _ _ => rfl⟩
theorem Lend.all {H : List HL} {β : BK} {t : TypeId} {size len : Nat} {c : C} {H' : List HL} (hm : At H (.one β t size c) (.one β t size c) H') (hl : len = c.len) : Lend H (.own β size 0 len) (.sl size c.len c.get) := by
  subst hl
  exact Lend.own hm (by omega)
theorem Lend.all' {H : List HL} {β : BK} {t : TypeId} {size len : Nat} {c : C} {H' : List HL} {d : D} (hm : At H (.one β t size c) (.one β t size c) H') (hl : len = c.len) (hd : D.sl size c.len c.get = d) : Lend H (.own β size 0 len) d := hd ▸ Lend.all hm hl
theorem Lend.nil {H : List HL} {size : Nat} {get : Nat → Nat → D} : Lend H (.v (.slice none 0 0)) (.sl size 0 get) := by
  rintro I w v _ hv
  exact ⟨none, 0, hv, Nat.le_refl _, Nat.zero_le _, fun h => absurd h (by omega)⟩
theorem Lend.ag {H : List HL} {n : Nat} {g g' : Nat → D} (h : ∀ i, i < n → Lend H (g i) (g' i)) : Lend H (.ag n g) (.ag n g') := by
  rintro I w v hok ⟨vs, rfl, h1, h2⟩
  exact ⟨vs, rfl, h1, fun i hi => let ⟨u, h3, h4, h5⟩ := h2 i hi; ⟨u, h3, h4, h i hi I w u hok h5⟩⟩
theorem Lend.tp {H : List HL} {n : Nat} {g g' : Nat → D} (h : ∀ i, i < n → Lend H (g i) (g' i)) : Lend H (.tp n g) (.tp n g') := by
  rintro I w v hok ⟨vs, rfl, h1, h2⟩
  exact ⟨vs, rfl, h1, fun i hi => let ⟨u, h3, h5⟩ := h2 i hi; ⟨u, h3, h i hi I w u hok h5⟩⟩
theorem nth_lt {l : List D} {i : Nat} (h : i < l.length) : nth l i = l.getD i .junk := by
  induction l generalizing i with
  | nil => simp at h
  | cons d l ih =>
    cases i with
    | zero => rfl
    | succ i =>
      show nth l i = _
      rw [ih (by simpa using h)]
      simp
def LendL (H : List HL) : List D → List D → Prop
  | [], ds' => ds' = []
  | d :: ds, ds' => ∃ d' r, ds' = d' :: r ∧ Lend H d d' ∧ LendL H ds r
theorem LendL.nil {H : List HL} : LendL H [] [] := rfl
theorem LendL.cons {H : List HL} {d d' : D} {ds ds' : List D} (h : Lend H d d') (h' : LendL H ds ds') : LendL H (d :: ds) (d' :: ds') := ⟨d', ds', rfl, h, h'⟩
theorem LendL.at {H : List HL} : ∀ {l l' : List D} (i : Nat), LendL H l l' → Lend H (nth l i) (nth l' i)
  | [], _, i, h => by rw [h]; exact Lend.refl _ _
  | d :: l, _, i, ⟨d', r, e, h1, h2⟩ => by
    subst e
    cases i with
    | zero => exact h1
    | succ i => exact LendL.at i h2
theorem Lend.agL {H : List HL} {n : Nat} {l l' : List D} (h : LendL H l l') : Lend H (.ag n (nth l)) (.ag n (nth l')) := Lend.ag fun i _ => LendL.at i h
theorem Lend.tpL {H : List HL} {n : Nat} {l l' : List D} (h : LendL H l l') : Lend H (.tp n (nth l)) (.tp n (nth l')) := Lend.tp fun i _ => LendL.at i h
theorem RdL.lend {H : List HL} {I : Nat → Prop} {w : World} (hok : ∀ h, h ∈ H → h.ok I w) : ∀ {ds ds' : List D} {vs : List Value}, LendL H ds ds' → RdL I w ds vs → RdL (fun b => I b ∨ fps H b) w ds' vs
  | [], _, _, h, hr => by rw [h]; exact hr
  | d :: ds, _, _, ⟨d', r, e, h1, h2⟩, ⟨v, vr, e2, h3, h4⟩ => by subst e e2; exact ⟨v, vr, rfl, h1 I w v hok h3, RdL.lend hok h2 h4⟩
def evL (s : St) : List Operand → Option (List D)
  | [] => some []
  | x :: l => match s.ev x, evL s l with
    | some d, some ds => some (d :: ds)
    | _, _ => none
theorem Sat.evL {X : Cx} {I : Nat → Prop} {s : St} {a : Act} {w : World} (hs : Sat X I s a w) : ∀ {l : List Operand} {ds : List D}, Sx.evL s l = some ds → RdL I w ds (l.map a.eval)
  | [], ds, h => by cases h; rfl
  | x :: l, ds, h => by
    unfold Sx.evL at h
    split at h
    · rename_i d ds' h1 h2
      cases h
      exact ⟨a.eval x, l.map a.eval, rfl, hs.ev h1, Sat.evL hs h2⟩
    · cases h
class FnT (P : Program) (f : FuncId) : Prop where
  run : ∀ args w, (callFunc f args).run P w = .ok (.enter f args) w
theorem FnT.of {P : Program} {f : FuncId} {fn : Func} (h : P.funcs[f]? = some fn) (h1 : (fn.name == "runtime.NumGoroutine") = false) (h2 : fn.body.isNone = false) : FnT P f where
  run := fun args w => by simp only [callFunc, Sem.run_bind, run_program, Result.andThen_ok, h, h1, h2, Bool.false_eq_true, if_false, Sem.run_pure]
section
variable {X : Cx} {fn : Func} {R : Ending → World → Prop} {k : List It} {s : St} {all : Array Oper} {os : List Oper} {d : Tmp} {ty : TypeId} {pos : String} {aft : Array Edge} {gd : Option (Nat × Bool)} {x y : Operand} {q : D}
def IndepP (post : D → List HL → Prop) : Prop := ∀ d H, post d H → (∀ I w v, Rd I w d v → Rd No w d v) ∧ ∀ x, x ∈ H → ∀ I w, x.ok I w → x.ok No w
end
class Indep (d : D) : Prop where
  h : ∀ I w v, Rd I w d v → ∀ w', Rd No w' d v
class IndepC (c : C) : Prop where
  h : ∀ e f, Indep (c.get e f)
instance (x : Value) : Indep (.v x) := ⟨fun _ _ _ h _ => h⟩
instance : Indep .e0 := ⟨fun _ _ _ h _ => h⟩
instance : Indep .junk := ⟨fun _ _ _ h _ => h⟩
instance (β : BK) (size r len : Nat) : Indep (.own β size r len) := ⟨fun _ _ _ h _ => h⟩
instance (β : BK) (size e f : Nat) : Indep (.ptr β size e f) := ⟨fun _ _ _ h _ => h⟩
theorem Indep.tp {n : Nat} {g : Nat → D} (h : ∀ i, i < n → Indep (g i)) : Indep (.tp n g) :=
  ⟨fun _ _ _ ⟨vs, e, h1, h2⟩ w' => ⟨vs, e, h1, fun i hi => let ⟨u, h3, h4⟩ := h2 i hi; ⟨u, h3, (h i hi).h _ _ _ h4 w'⟩⟩⟩
theorem Indep.ag {n : Nat} {g : Nat → D} (h : ∀ i, i < n → Indep (g i)) : Indep (.ag n g) :=
  ⟨fun _ _ _ ⟨vs, e, h1, h2⟩ w' => ⟨vs, e, h1, fun i hi => let ⟨u, h3, h4, h5⟩ := h2 i hi; ⟨u, h3, h4, (h i hi).h _ _ _ h5 w'⟩⟩⟩
class IndepL (l : List D) : Prop where
  h : ∀ i, Indep (nth l i)
instance : IndepL [] := ⟨fun _ => inferInstanceAs (Indep .junk)⟩
instance (d : D) (l : List D) [h : Indep d] [h' : IndepL l] : IndepL (d :: l) := ⟨fun i => by
  cases i with
  | zero => exact h
  | succ i => exact h'.h i⟩
instance {n : Nat} {l : List D} [h : IndepL l] : Indep (.tp n (nth l)) := Indep.tp fun i _ => h.h i
instance {n : Nat} {l : List D} [h : IndepL l] : Indep (.ag n (nth l)) := Indep.ag fun i _ => h.h i
instance (xs : List Int) : IndepC (ints xs) := ⟨fun _ _ => inferInstanceAs (Indep (.v _))⟩
instance (xs : List Bool) : IndepC (bools xs) := ⟨fun _ _ => inferInstanceAs (Indep (.v _))⟩
class IndepH (H : List HL) : Prop where
  h : ∀ x, x ∈ H → ∀ I w, x.ok I w → x.ok No w
instance : IndepH [] := ⟨fun _ h => by cases h⟩
theorem BOk.indep {I : Nat → Prop} {w : World} {β : BK} {t : TypeId} {size : Nat} {c : C} (hc : IndepC c) (h : BOk I w β t size c) : BOk No w β t size c :=
  ⟨h.1, fun hs => let ⟨cs, h1, h2, h3⟩ := h.2 hs; ⟨cs, h1, h2, fun e he f hf => let ⟨u, h4, h5, h6⟩ := h3 e he f hf; ⟨u, h4, h5, (hc.h e f).h _ _ _ h6 w⟩⟩⟩
instance {β : BK} {t : TypeId} {size : Nat} {c : C} {H : List HL} [hc : IndepC c] [hh : IndepH H] : IndepH (.one β t size c :: H) := ⟨fun x hx I w hk => by
  rcases List.mem_cons.1 hx with rfl | hx
  · exact BOk.indep hc hk
  · exact hh.h x hx I w hk⟩
def TB (P : Program) (w0 : World) (I0 : Nat → Prop) (H0 : List HL) : Prop := Tab P I0 w0 ∧ ∀ b, I0 b → b < w0.heap.size ∧ ¬ fps H0 b
def resV (tmps : Array Value) : ResultVar → Sem Value
  | .tmp t => Pure.pure (tmps.getD t undef)
  | .cell p t => do loadVar t (← asAddr (tmps.getD p undef))
def ResD (X : Cx) (s : St) (r : ResultVar) (d : D) : Prop := ∀ I a w, Sat X I s a w → ∃ v, (resV a.tmps r).run X.P w = .ok v w ∧ Rd I w d v
theorem ResD.tmp {X : Cx} {s : St} {t : Tmp} {d : D} (h : look s.env t = some d) : ResD X s (.tmp t) d := fun _ a w hs => ⟨a.tmps.getD t undef, rfl, hs.env t d h⟩
theorem ResD.cellAg {X : Cx} {s : St} {p : Tmp} {t te : TypeId} {β : BK} {size e n : Nat} {c : C} {H : List HL} [ht : TI X.P t n true] (h : look s.env p = some (.ptr β size e 0)) (hm : At s.heap (.one β te size c) (.one β te size c) H) (he : e < c.len) (hf : Nat.ble n size = true) :
    ResD X s (.cell p t) (.ag n (fun j => c.get e j)) := fun _ a w hs => by
  have hv : a.tmps.getD p undef = .pointer (some ⟨β.b, β.o + (e * size + 0), none⟩) := hs.env p _ h
  have hb : BOk _ w β te size c := hs.heap _ hm.mem
  have hf' := Nat.le_of_ble_eq_true hf
  have hc : ∀ j, ∃ u, j < n → w.cell? ⟨β.b, β.o + (e * size + 0) + j, none⟩ = some u ∧ u.oneCell' = true ∧ Rd _ w (c.get e j) u := fun j => by
    by_cases hj : j < n
    · obtain ⟨u, h⟩ := hb.cell he (show j < size by omega)
      exact ⟨u, fun _ => by rw [show β.o + (e * size + 0) + j = β.o + (e * size + j) by omega]; exact h⟩
    · exact ⟨undef, fun h => absurd h hj⟩
  obtain ⟨F, hF⟩ := Classical.axiomOfChoice hc
  refine ⟨_, ?_, rd_agg fun j hj => ⟨(hF j hj).2.1, (hF j hj).2.2⟩⟩
  have hl := run_loadAgg (P := X.P) w β.b (β.o + (e * size + 0)) n F fun j hj => (hF j hj).1
  simp only [resV, hv, asAddr, Sem.run_bind, Sem.run_pure, Result.andThen_ok, loadVar, ht.agg, ht.size, hl, if_true]
theorem results_eq (fn : Func) (tmps : Array Value) : results fn tmps = (do
    let vs ← fn.results.mapM (resV tmps)
    Pure.pure (if h : vs.size = 1 then vs[0] else .tuple vs)) := by
  unfold results
  congr 1
section
variable {P : Program} {fn : Func} {nt : Nat} {w0 : World} {I0 : Nat → Prop} {H0 : List HL} {tb : TB P w0 I0 H0} {post : D → List HL → Prop} {k : List It} {s : St} {d d1 d2 d3 d4 : D} {r1 r2 r3 r4 : ResultVar} {H' rest : List HL}
def ResL (X : Cx) (s : St) : List ResultVar → List D → Prop
  | [], ds => ds = []
  | r :: rs, ds => ∃ d l, ds = d :: l ∧ ResD X s r d ∧ ResL X s rs l
theorem ResL.run {X : Cx} {s : St} {I : Nat → Prop} {a : Act} {w : World} (hs : Sat X I s a w) : ∀ {rs : List ResultVar} {ds : List D}, ResL X s rs ds → ∃ vs : List Value, (rs.mapM (resV a.tmps)).run X.P w = .ok vs w ∧ vs.length = ds.length ∧
    ∀ i, i < ds.length → ∃ u, vs[i]? = some u ∧ Rd I w (nth ds i) u
  | [], _, h => by rw [show _ = [] from h]; exact ⟨[], by simp, rfl, fun i hi => absurd hi (by simp)⟩
  | r :: rs, _, ⟨d, l, e, h1, h2⟩ => by
    subst e
    obtain ⟨v, hv, hr⟩ := h1 I a w hs
    obtain ⟨vs, hvs, hl, hh⟩ := ResL.run hs h2
    refine ⟨v :: vs, by simp [List.mapM_cons, hv, hvs], by simp [hl], fun i hi => ?_⟩
    cases i with
    | zero => exact ⟨v, rfl, hr⟩
    | succ i =>
      obtain ⟨u, h3, h4⟩ := hh i (by simpa using hi)
      exact ⟨u, by simpa using h3, h4⟩
def tupD : List D → D
  | [d] => d
  | l => .tp l.length (nth l)
def argEnv : Nat → List D → List (Nat × D)
  | _, [] => []
  | n, d :: l => (n, d) :: argEnv (n + 1) l
theorem look_argEnv {I : Nat → Prop} {w : World} : ∀ {l : List D} {vs : List Value} (n : Nat), RdL I w l vs → ∀ j e, look (argEnv n l) j = some e → n ≤ j ∧ ∃ v, vs[j - n]? = some v ∧ Rd I w e v
  | [], _, _, _, _, _, h => by cases h
  | d :: l, _, n, ⟨v, r, hv, h1, h2⟩, j, e, h => by
    subst hv
    by_cases hj : n = j
    · subst hj
      have e1 : Nat.beq n n = true := by simp
      simp only [argEnv, look, e1, cond_true, Option.some.injEq] at h
      subst h
      exact ⟨Nat.le_refl _, v, by simp, h1⟩
    · have e1 : Nat.beq n j = false := by rw [Bool.eq_false_iff]; exact fun e => hj (Nat.eq_of_beq_eq_true e)
      simp only [argEnv, look, e1, cond_false] at h
      obtain ⟨h3, u, h4, h5⟩ := look_argEnv (n + 1) h2 j e h
      refine ⟨by omega, u, ?_, h5⟩
      rw [show j - n = (j - (n + 1)) + 1 by omega]
      simpa using h4
theorem nil_fps {m : Nat → Prop} : ∀ b, fps [] b → ¬ m b := fun _ ⟨_, h, _⟩ => by cases h
theorem no_fps {A : List HL} : ∀ b, fps A b → ¬ fps [] b := fun _ _ ⟨_, h, _⟩ => by cases h
theorem RdL.length {I : Nat → Prop} {w : World} : ∀ {l : List D} {vs : List Value}, RdL I w l vs → vs.length = l.length
  | [], _, h => by rw [show _ = [] from h]; rfl
  | d :: l, _, ⟨v, r, e, _, h⟩ => by rw [e]; simp [RdL.length h]
end
end Go.Proofs.Ytkfmphlnpmemdaa.Sx
