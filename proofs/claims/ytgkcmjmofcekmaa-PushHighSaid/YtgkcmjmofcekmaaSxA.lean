/- The base of the walks of this seat: data that a value reads as, memory that a call owns, symbolic states, and what a step of the run does to them. Plain laws over any program: no function of the seat is named here. -/
import Derived.WalkKit
import Derived.Deep.Quiet
import Derived.StillTail
import Derived.Lib.LaidTab
import Derived.Lib.ItoaNum
namespace Go.Proofs.Ytgkcmjmofcekmaa.Sx
open Go
set_option linter.unusedVariables false
set_option linter.unusedSimpArgs false

/-- A row of cells: its block, the first cell's place, how many elements may lie there. -/
structure BK where
  b : Nat
  o : Nat
  s : Nat

/-- What a value reads as. -/
inductive D where
  | v (x : Value)
  | sl (size len : Nat) (get : Nat → Nat → D)
  | e0
  | ag (n : Nat) (get : Nat → D)
  | tp (n : Nat) (get : Nat → D)
  | own (β : BK) (size r len : Nat)
  | ptr (β : BK) (size e f : Nat)
  | rp (size len : Nat) (get : Nat → Nat → D) (e f : Nat)
  | fn (f : FuncId) (n : Nat) (get : Nat → D)
  | self (f : FuncId) (n : Nat) (get : Nat → D) (j : Nat)
  | selfp (f : FuncId) (n : Nat) (get : Nat → D) (j : Nat)
  | junk

def Rd (I : Nat → Prop) (w : World) : D → Value → Prop
  | .v x, v => v = x
  | .sl size len get, v => ∃ a cap, v = .slice a len cap ∧ len ≤ cap ∧ cap ≤ maxLen ∧ (0 < len → ∃ g q, a = some ⟨g, q, none⟩ ∧ I g ∧
      ∀ e, e < len → ∀ f, f < size → ∃ u, w.cell? ⟨g, q + (e * size + f), none⟩ = some u ∧ u.oneCell' = true ∧ Rd I w (get e f) u)
  | .e0, v => ∃ a, v = .slice a 0 0
  | .ag n get, v => ∃ vs : Array Value, v = .agg vs ∧ vs.size = n ∧ ∀ i, i < n → ∃ u, vs[i]? = some u ∧ u.oneCell' = true ∧ Rd I w (get i) u
  | .tp n get, v => ∃ vs : Array Value, v = .tuple vs ∧ vs.size = n ∧ ∀ i, i < n → ∃ u, vs[i]? = some u ∧ Rd I w (get i) u
  | .own β size r len, v => ∃ a cap, v = .slice a len cap ∧ len ≤ cap ∧ cap ≤ maxLen ∧ r + cap ≤ β.s ∧ (0 < cap → a = some ⟨β.b, β.o + r * size, none⟩)
  | .ptr β size e f, v => v = .pointer (some ⟨β.b, β.o + (e * size + f), none⟩)
  | .rp size len get e f, v => ∃ g q, v = .pointer (some ⟨g, q + (e * size + f), none⟩) ∧ I g ∧
      ∀ e, e < len → ∀ f, f < size → ∃ u, w.cell? ⟨g, q + (e * size + f), none⟩ = some u ∧ u.oneCell' = true ∧ Rd I w (get e f) u
  | .fn f n get, v => ∃ vs : Array Value, v = .func (.func f) #[] vs ∧ vs.size = n ∧ ∀ i, i < n → ∃ u, vs[i]? = some u ∧ Rd I w (get i) u
  | .self f n get j, v => ∃ (vs : Array Value) (g q : Nat), v = .func (.func f) #[] vs ∧ vs.size = n ∧ (∀ i, i < n → i ≠ j → ∃ u, vs[i]? = some u ∧ Rd I w (get i) u) ∧ vs[j]? = some (.pointer (some ⟨g, q, none⟩)) ∧ I g ∧ w.cell? ⟨g, q, none⟩ = some v
  | .selfp f n get j, v => ∃ (vs : Array Value) (g q : Nat), v = .pointer (some ⟨g, q, none⟩) ∧ I g ∧ w.cell? ⟨g, q, none⟩ = some (.func (.func f) #[] vs) ∧ vs.size = n ∧ (∀ i, i < n → i ≠ j → ∃ u, vs[i]? = some u ∧ Rd I w (get i) u) ∧ vs[j]? = some v
  | .junk, _ => True

theorem Rd.mono {I I' : Nat → Prop} {w w' : World} (hI : ∀ b, I b → I' b) (hw : ∀ b, I b → w'.heap[b]? = w.heap[b]?) : ∀ (d : D) (v : Value), Rd I w d v → Rd I' w' d v := by
  intro d
  induction d with
  | v x => exact fun _ h => h
  | sl size len get ih =>
    rintro v ⟨a, cap, rfl, h1, h2, h3⟩
    refine ⟨a, cap, rfl, h1, h2, fun h => ?_⟩
    obtain ⟨g, q, ha, hg, hc⟩ := h3 h
    refine ⟨g, q, ha, hI g hg, fun e he f hf => ?_⟩
    obtain ⟨u, hu, ho, hr⟩ := hc e he f hf
    exact ⟨u, (World.cell?_of_block (w := w) (w' := w') (hw g hg)).trans hu, ho, ih e f u hr⟩
  | e0 => exact fun _ h => h
  | ag n get ih =>
    rintro v ⟨vs, rfl, hs, h⟩
    exact ⟨vs, rfl, hs, fun i hi => let ⟨u, hu, ho, hr⟩ := h i hi; ⟨u, hu, ho, ih i u hr⟩⟩
  | tp n get ih =>
    rintro v ⟨vs, rfl, hs, h⟩
    exact ⟨vs, rfl, hs, fun i hi => let ⟨u, hu, hr⟩ := h i hi; ⟨u, hu, ih i u hr⟩⟩
  | own β size r len => exact fun _ h => h
  | ptr β size e f => exact fun _ h => h
  | rp size len get e f ih =>
    rintro v ⟨g, q, rfl, hg, hc⟩
    refine ⟨g, q, rfl, hI g hg, fun e he f hf => ?_⟩
    obtain ⟨u, hu, ho, hr⟩ := hc e he f hf
    exact ⟨u, (World.cell?_of_block (w := w) (w' := w') (hw g hg)).trans hu, ho, ih e f u hr⟩
  | fn f n get ih =>
    rintro v ⟨vs, rfl, hs, h⟩
    exact ⟨vs, rfl, hs, fun i hi => let ⟨u, hu, hr⟩ := h i hi; ⟨u, hu, ih i u hr⟩⟩
  | self f n get j ih =>
    rintro v ⟨vs, g, q, rfl, hs, h, hj, hg, hc⟩
    exact ⟨vs, g, q, rfl, hs, fun i hi hne => let ⟨u, hu, hr⟩ := h i hi hne; ⟨u, hu, ih i u hr⟩, hj, hI g hg, (World.cell?_of_block (w := w) (w' := w') (hw g hg)).trans hc⟩
  | selfp f n get j ih =>
    rintro v ⟨vs, g, q, rfl, hg, hc, hs, h, hj⟩
    exact ⟨vs, g, q, rfl, hI g hg, (World.cell?_of_block (w := w) (w' := w') (hw g hg)).trans hc, hs, fun i hi hne => let ⟨u, hu, hr⟩ := h i hi hne; ⟨u, hu, ih i u hr⟩, hj⟩
  | junk => exact fun _ _ => trivial

/-- What a row holds: so many elements; of each its cells. -/
structure C where
  len : Nat
  get : Nat → Nat → D

/-- Block β is a row of elements of type t that begins with what c says, and nobody else's. -/
def BOk (I : Nat → Prop) (w : World) (β : BK) (t : TypeId) (size : Nat) (c : C) : Prop :=
  c.len ≤ β.s ∧ (0 < β.s → ∃ cs : Array Value, w.heap[β.b]? = some (.cells cs t (0, 0)) ∧ cs.size = β.o + β.s * size ∧
    ∀ e, e < c.len → ∀ f, f < size → ∃ u, cs[β.o + (e * size + f)]? = some u ∧ u.oneCell' = true ∧ Rd I w (c.get e f) u)

inductive HL where
  | one (β : BK) (t : TypeId) (size : Nat) (c : C)
  | many (n : Nat) (β : Nat → BK) (t : TypeId) (size : Nat) (c : Nat → C)
  | mp (β : BK) (es : List (Int × Int))

def HL.fp : HL → Nat → Prop
  | .one β _ _ _, b => 0 < β.s ∧ b = β.b
  | .many n β _ _ _, b => ∃ i, i < n ∧ 0 < (β i).s ∧ b = (β i).b
  | .mp β _, b => b = β.b

def HL.ok (I : Nat → Prop) (w : World) : HL → Prop
  | .one β t size c => BOk I w β t size c
  | .many n β t size c => (∀ i, i < n → BOk I w (β i) t size (c i)) ∧ ∀ i j, i < n → j < n → 0 < (β i).s → 0 < (β j).s → (β i).b = (β j).b → i = j
  | .mp β es => ∃ (vs : Array MapEntry) (clock : Nat), w.heap[β.b]? = some (.map vs clock) ∧ vs.toList.map (fun e => (e.key, e.val)) = es.map fun p => (Value.int .i64 p.1, Value.int .i64 p.2)

theorem BOk.mono {I I' : Nat → Prop} {w w' : World} {β : BK} {t : TypeId} {size : Nat} {c : C} (h : BOk I w β t size c) (hI : ∀ b, I b → I' b)
    (hw : ∀ b, I b → w'.heap[b]? = w.heap[b]?) (hb : 0 < β.s → w'.heap[β.b]? = w.heap[β.b]?) : BOk I' w' β t size c :=
  ⟨h.1, fun hs => let ⟨cs, h1, h2, h3⟩ := h.2 hs; ⟨cs, (hb hs).trans h1, h2, fun e he f hf => let ⟨u, hu, ho, hr⟩ := h3 e he f hf; ⟨u, hu, ho, hr.mono hI hw⟩⟩⟩

theorem HL.ok.mono {I I' : Nat → Prop} {w w' : World} {h : HL} (hk : h.ok I w) (hI : ∀ b, I b → I' b)
    (hw : ∀ b, I b → w'.heap[b]? = w.heap[b]?) (hb : ∀ b, h.fp b → w'.heap[b]? = w.heap[b]?) : h.ok I' w' := by
  cases h with
  | one β t size c => exact BOk.mono hk hI hw (fun hs => hb _ ⟨hs, rfl⟩)
  | many n β t size c => exact ⟨fun i hi => BOk.mono (hk.1 i hi) hI hw (fun hs => hb _ ⟨i, hi, hs, rfl⟩), hk.2⟩
  | mp β es => obtain ⟨vs, clock, h1, h2⟩ := hk; exact ⟨vs, clock, (hb _ rfl).trans h1, h2⟩

/-- From w to w' nothing has turned but blocks of 'may' and new ones. -/
structure Same (w w' : World) (may : Nat → Prop) : Prop where
  os : w'.os = w.os
  tape : w'.tape = w.tape
  output : w'.output = w.output
  size : w.heap.size ≤ w'.heap.size
  block : ∀ k, k < w.heap.size → ¬ may k → w'.heap[k]? = w.heap[k]?

theorem Same.refl (w : World) (may : Nat → Prop) : Same w w may := ⟨rfl, rfl, rfl, Nat.le_refl _, fun _ _ _ => rfl⟩
theorem Same.trans {a b c : World} {m : Nat → Prop} (h : Same a b m) (k : Same b c m) : Same a c m :=
  ⟨k.os.trans h.os, k.tape.trans h.tape, k.output.trans h.output, Nat.le_trans h.size k.size, fun i hi hm => (k.block i (Nat.lt_of_lt_of_le hi h.size) hm).trans (h.block i hi hm)⟩
theorem Same.step {a b c : World} {m n : Nat → Prop} (h : Same a b m) (k : Same b c n) (hn : ∀ i, n i → m i ∨ a.heap.size ≤ i) : Same a c m :=
  ⟨k.os.trans h.os, k.tape.trans h.tape, k.output.trans h.output, Nat.le_trans h.size k.size, fun i hi hm => (k.block i (Nat.lt_of_lt_of_le hi h.size) (fun hh => by
    rcases hn i hh with h1 | h1
    · exact hm h1
    · omega)).trans (h.block i hi hm)⟩
theorem Same.mono {a b : World} {m n : Nat → Prop} (h : Same a b m) (hn : ∀ i, m i → n i) : Same a b n := ⟨h.os, h.tape, h.output, h.size, fun i hi hm => h.block i hi (fun hh => hm (hn i hh))⟩
theorem Same.alloc (w : World) (o : Obj) (m : Nat → Prop) : Same w (w.alloc o) m := ⟨rfl, rfl, rfl, by simp, fun k hk _ => Go.RowKit.Below.heap_alloc w o k hk⟩
theorem Same.drew (w : World) (m : Nat → Prop) : Same w w.drew m := ⟨rfl, rfl, rfl, Nat.le_refl _, fun _ _ _ => rfl⟩
theorem Same.setCell (w : World) (a : Addr) (v : Value) : Same w (w.setCell a v) (· = a.block) := ⟨rfl, rfl, rfl, by simp, fun k _ hm => heap_setCell_other w a k v hm⟩

/-- The library's table of the powers of ten, where the program has it: nobody writes it, and it holds what it should. -/
def Tab (P : Program) (I : Nat → Prop) (w : World) : Prop :=
  ∀ g, P.globalNamed "internal/strconv.uint64pow10" = some g → I g ∧ Lib.TabIs P w "internal/strconv.uint64pow10" .u64 Lib.pow10Tab
theorem Tab.mono {P : Program} {I I' : Nat → Prop} {w w' : World} (h : Tab P I w) (hI : ∀ b, I b → I' b) (hw : ∀ b, I b → w'.heap[b]? = w.heap[b]?) : Tab P I' w' := fun g hg => by
  obtain ⟨h1, h2⟩ := h g hg
  refine ⟨hI g h1, ?_⟩
  unfold Lib.TabIs World.var? at h2 ⊢
  simp only [hg, Option.bind_some] at h2 ⊢
  rw [hw g h1]
  exact h2

/-- A symbolic state: what the slots read as, and what the call owns. -/
structure St where
  env : List (Nat × D)
  heap : List HL

def look : List (Nat × D) → Nat → Option D
  | [], _ => none
  | (k, d) :: r, n => cond (Nat.beq k n) (some d) (look r n)

def St.put (s : St) (k : Nat) (d : D) : St := { env := (k, d) :: s.env, heap := s.heap }
def St.ev (s : St) : Operand → Option D
  | .tmp t => look s.env t
  | .const v => some (.v v)
  | .global g => some (.v (.pointer (some ⟨g, 0, none⟩)))
  | .func f => some (.v (.func (.func f) #[] #[]))

/-- The frame of a run: the program, how many slots there are, the world at the call's begin, which old blocks may be written, which blocks the arguments lie in, which calls are deferred. -/
structure Cx where
  P : Program
  nt : Nat
  w0 : World
  may : Nat → Prop
  I0 : Nat → Prop
  ds : List Deferred
  tb : Tab P I0 w0 ∧ ∀ b, I0 b → b < w0.heap.size ∧ ¬ may b

def Sep (l : List HL) : Prop := l.Pairwise fun h h' => ∀ b, h.fp b → ¬ h'.fp b
def fps (l : List HL) (b : Nat) : Prop := ∃ h, h ∈ l ∧ h.fp b

structure Sat (X : Cx) (I : Nat → Prop) (s : St) (a : Act) (w : World) : Prop where
  tsz : a.tmps.size = X.nt
  dfr : a.defers = X.ds
  env : ∀ k d, look s.env k = some d → Rd I w d (a.tmps.getD k undef)
  heap : ∀ h, h ∈ s.heap → h.ok I w
  sep : Sep s.heap
  own : ∀ b, fps s.heap b → ¬ I b ∧ (X.w0.heap.size ≤ b ∨ X.may b) ∧ b < w.heap.size
  imm : ∀ b, I b → b < w.heap.size ∧ (X.I0 b ∨ X.w0.heap.size ≤ b)
  i0 : ∀ b, X.I0 b → I b
  same : Same X.w0 w X.may

section
variable {X : Cx} {I : Nat → Prop} {s : St} {a : Act} {w : World}

theorem Sat.tab (h : Sat X I s a w) : Tab X.P I w := X.tb.1.mono h.i0 fun b hb => h.same.block b (X.tb.2 b hb).1 (X.tb.2 b hb).2

theorem look_put (s : St) (k j : Nat) (d : D) : look (s.put k d).env j = if k = j then some d else look s.env j := by
  show cond (Nat.beq k j) (some d) (look s.env j) = _
  by_cases h : k = j
  · subst h; simp
  · have : Nat.beq k j = false := by rw [Bool.eq_false_iff]; exact fun e => h (Nat.eq_of_beq_eq_true e)
    simp [this, h]

theorem Sat.ev (h : Sat X I s a w) {x : Operand} {d : D} (hx : s.ev x = some d) : Rd I w d (a.eval x) := by
  cases x with
  | tmp t => exact h.env t d hx
  | const v => cases hx; exact rfl
  | global g => cases hx; exact rfl
  | func f => cases hx; exact rfl

theorem Sat.put (h : Sat X I s a w) {k : Nat} {d : D} {v : Value} (hk : k < X.nt) (hr : Rd I w d v) : Sat X I (s.put k d) (a.put (some k) v) w := by
  refine ⟨by simp [Act.put, h.tsz], h.dfr, fun j e hj => ?_, h.heap, h.sep, h.own, h.imm, h.i0, h.same⟩
  rw [look_put] at hj
  by_cases hkj : k = j
  · subst hkj
    rw [if_pos rfl] at hj
    cases hj
    have hsz : k < a.tmps.size := by rw [h.tsz]; exact hk
    simpa [Act.put, hsz] using hr
  · rw [if_neg hkj] at hj
    have := h.env j e hj
    simpa [Act.put, Array.getD_eq_getD_getElem?, Array.getElem?_setIfInBounds, hkj] using this

/-- The world goes on to w', what is immutable and what the call owns being as it was: the state holds there. -/
theorem Sat.world (h : Sat X I s a w) {w' : World} (hs : Same w w' (fun b => ¬ I b ∧ ¬ fps s.heap b ∧ (X.may b ∨ X.w0.heap.size ≤ b))) : Sat X I s a w' := by
  have hI : ∀ b, I b → w'.heap[b]? = w.heap[b]? := fun b hb => hs.block b (h.imm b hb).1 (fun hh => hh.1 hb)
  have hF : ∀ b, fps s.heap b → w'.heap[b]? = w.heap[b]? := fun b hb => hs.block b (h.own b hb).2.2 (fun hh => hh.2.1 hb)
  refine ⟨h.tsz, h.dfr, fun k d hk => (h.env k d hk).mono (fun _ h => h) hI, fun x hx => (h.heap x hx).mono (fun _ h => h) hI (fun b hb => hF b ⟨x, hx, hb⟩), h.sep,
    fun b hb => ?_, fun b hb => ⟨Nat.lt_of_lt_of_le (h.imm b hb).1 hs.size, (h.imm b hb).2⟩, h.i0, h.same.step hs fun i hi => hi.2.2⟩
  obtain ⟨h1, h2, h3⟩ := h.own b hb
  exact ⟨h1, h2, Nat.lt_of_lt_of_le h3 hs.size⟩

theorem Sat.drew (h : Sat X I s a w) : Sat X I s a w.drew := h.world (Same.drew w _)

/-- A new row of the call's own. -/
theorem Sat.new (h : Sat X I s a w) {w' : World} (hs : Same w w' (fun _ => False)) (x : HL) (hx : x.ok I w') (hfp : ∀ b, x.fp b → w.heap.size ≤ b ∧ b < w'.heap.size) :
    Sat X I { s with heap := x :: s.heap } a w' := by
  have h' := h.world (w' := w') (hs.mono (fun _ hh => hh.elim))
  refine ⟨h'.tsz, h'.dfr, h'.env, fun y hy => ?_, ?_, ?_, h'.imm, h'.i0, h'.same⟩
  · rcases List.mem_cons.1 hy with rfl | hy
    · exact hx
    · exact h'.heap y hy
  · refine List.pairwise_cons.2 ⟨fun y hy b hb hyb => ?_, h.sep⟩
    have h1 := (hfp b hb).1
    have h2 := (h.own b ⟨y, hy, hyb⟩).2.2
    omega
  · rintro b ⟨y, hy, hyb⟩
    rcases List.mem_cons.1 hy with rfl | hy
    · obtain ⟨h1, h2⟩ := hfp b hyb
      refine ⟨fun hi => ?_, .inl (Nat.le_trans h.same.size h1), h2⟩
      have := (h.imm b hi).1
      omega
    · exact h'.own b ⟨y, hy, hyb⟩

/-- Fewer facts. -/
theorem Sat.weaken (h : Sat X I s a w) {s' : St} (he : ∀ k d, look s'.env k = some d → Rd I w d (a.tmps.getD k undef)) (hh : s'.heap.Sublist s.heap) : Sat X I s' a w :=
  ⟨h.tsz, h.dfr, he, fun x hx => h.heap x (hh.mem hx), h.sep.sublist hh, fun b ⟨x, hx, hb⟩ => h.own b ⟨x, hh.mem hx, hb⟩, h.imm, h.i0, h.same⟩
end

/-- In heap H the row at one place is x; with y in its place it is H'. -/
inductive At : List HL → HL → HL → List HL → Prop
  | head (x y : HL) (l : List HL) : At (x :: l) x y (y :: l)
  | tail (z x y : HL) (l l' : List HL) (h : At l x y l') : At (z :: l) x y (z :: l')

theorem At.mem {l l' : List HL} {x y : HL} (h : At l x y l') : x ∈ l := by
  induction h with
  | head => exact List.mem_cons_self ..
  | tail _ _ _ _ _ _ ih => exact List.mem_cons_of_mem _ ih

theorem At.new {l l' : List HL} {x y : HL} (h : At l x y l') : y ∈ l' := by
  induction h with
  | head => exact List.mem_cons_self ..
  | tail _ _ _ _ _ _ ih => exact List.mem_cons_of_mem _ ih

theorem At.old {l l' : List HL} {x y : HL} (h : At l x y l') : ∀ z, z ∈ l' → z = y ∨ z ∈ l := by
  induction h with
  | head x y l =>
    intro z hz
    rcases List.mem_cons.1 hz with rfl | hz
    · exact .inl rfl
    · exact .inr (List.mem_cons_of_mem _ hz)
  | tail u x y l l' _ ih =>
    intro z hz
    rcases List.mem_cons.1 hz with rfl | hz
    · exact .inr (List.mem_cons_self ..)
    · rcases ih z hz with h | h
      · exact .inl h
      · exact .inr (List.mem_cons_of_mem _ h)

/-- Rows other than the one at that place do not meet it. -/
theorem At.sep {l l' : List HL} {x y : HL} (h : At l x y l') (hs : Sep l) (hy : ∀ b, y.fp b → x.fp b ∨ ¬ fps l b) : Sep l' := by
  induction h with
  | head x y l =>
    obtain ⟨h1, h2⟩ := List.pairwise_cons.1 hs
    refine List.pairwise_cons.2 ⟨fun z hz b hb hzb => ?_, h2⟩
    rcases hy b hb with h | h
    · exact h1 z hz b h hzb
    · exact h ⟨z, List.mem_cons_of_mem _ hz, hzb⟩
  | tail u x y l l' hat ih =>
    obtain ⟨h1, h2⟩ := List.pairwise_cons.1 hs
    refine List.pairwise_cons.2 ⟨fun z hz b hb hzb => ?_, ih h2 fun b hb => ?_⟩
    · rcases hat.old z hz with rfl | hz
      · rcases hy b hzb with h | h
        · exact h1 x hat.mem b hb h
        · exact h ⟨u, List.mem_cons_self .., hb⟩
      · exact h1 z hz b hb hzb
    · rcases hy b hb with h | h
      · exact .inl h
      · exact .inr fun ⟨z, hz, hzb⟩ => h ⟨z, List.mem_cons_of_mem _ hz, hzb⟩

/-- A row stays or is the one that has turned; a row that stays does not meet it. -/
theorem At.kept {l l' : List HL} {x y : HL} (h : At l x y l') (hs : Sep l) : ∀ z, z ∈ l' → z = y ∨ (z ∈ l ∧ ∀ b, z.fp b → ¬ x.fp b) := by
  induction h with
  | head x y l =>
    obtain ⟨h1, h2⟩ := List.pairwise_cons.1 hs
    intro z hz
    rcases List.mem_cons.1 hz with rfl | hz
    · exact .inl rfl
    · exact .inr ⟨List.mem_cons_of_mem _ hz, fun b hb hx => h1 z hz b hx hb⟩
  | tail u x y l l' hat ih =>
    obtain ⟨h1, h2⟩ := List.pairwise_cons.1 hs
    intro z hz
    rcases List.mem_cons.1 hz with rfl | hz
    · exact .inr ⟨List.mem_cons_self .., fun b hb hx => h1 x hat.mem b hb hx⟩
    · rcases ih h2 z hz with h | ⟨h, hh⟩
      · exact .inl h
      · exact .inr ⟨List.mem_cons_of_mem _ h, hh⟩

section
variable {X : Cx} {I : Nat → Prop} {s : St} {a : Act} {w : World}

/-- The row x of the call's own has turned into y, in the world w'. -/
theorem Sat.turn (h : Sat X I s a w) {w' : World} {x y : HL} {H' : List HL} (hat : At s.heap x y H') (hs : Same w w' x.fp) (hy : y.ok I w')
    (hfp : ∀ b, y.fp b → (x.fp b ∨ w.heap.size ≤ b) ∧ b < w'.heap.size) : Sat X I { s with heap := H' } a w' := by
  have hI : ∀ b, I b → w'.heap[b]? = w.heap[b]? := fun b hb => hs.block b (h.imm b hb).1 (fun hh => (h.own b ⟨x, hat.mem, hh⟩).1 hb)
  refine ⟨h.tsz, h.dfr, fun k d hk => (h.env k d hk).mono (fun _ h => h) hI, fun z hz => ?_, hat.sep h.sep fun b hb => ?_, ?_,
    fun b hb => ⟨Nat.lt_of_lt_of_le (h.imm b hb).1 hs.size, (h.imm b hb).2⟩, h.i0, h.same.step hs fun i hi => (h.own i ⟨x, hat.mem, hi⟩).2.1.symm⟩
  · rcases hat.kept h.sep z hz with rfl | ⟨hz, hd⟩
    · exact hy
    · exact (h.heap z hz).mono (fun _ h => h) hI fun b hb => hs.block b (h.own b ⟨z, hz, hb⟩).2.2 (hd b hb)
  · rcases (hfp b hb).1 with h1 | h1
    · exact .inl h1
    · exact .inr fun hf => by have := (h.own b hf).2.2; omega
  · rintro b ⟨z, hz, hzb⟩
    rcases hat.old z hz with rfl | hz
    · obtain ⟨h1, h2⟩ := hfp b hzb
      rcases h1 with h1 | h1
      · obtain ⟨e1, e2, _⟩ := h.own b ⟨x, hat.mem, h1⟩
        exact ⟨e1, e2, h2⟩
      · refine ⟨fun hi => ?_, .inl (Nat.le_trans h.same.size h1), h2⟩
        have := (h.imm b hi).1
        omega
    · obtain ⟨e1, e2, e3⟩ := h.own b ⟨z, hz, hzb⟩
      exact ⟨e1, e2, Nat.lt_of_lt_of_le e3 hs.size⟩
end

end Go.Proofs.Ytgkcmjmofcekmaa.Sx
