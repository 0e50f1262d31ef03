import Derived.Conc.CompanyCalls
import Derived.Conc.CompanyDraw
import Derived.Conc.EventLaws
import Derived.Conc.Listed
import Derived.OrdersHeld
import Derived.StillTail
set_option linter.unusedVariables false
namespace Go.Proofs.Ytkfmphlnpmemdaa.Sx
open Go Go.Conc
structure Rely (Im O : Nat → Prop) (w w₁ : World) : Prop where
  os : w₁.os = w.os
  tape : w₁.tape = w.tape
  output : w₁.output = w.output
  size : w.heap.size ≤ w₁.heap.size
  block : ∀ b, b < w.heap.size → (Im b ∨ O b) → w₁.heap[b]? = w.heap[b]?
theorem Rely.refl (Im O : Nat → Prop) (w : World) : Rely Im O w w := ⟨rfl, rfl, rfl, Nat.le_refl _, fun _ _ _ => rfl⟩
theorem Rely.trans {Im O : Nat → Prop} {a b c : World} (h : Rely Im O a b) (k : Rely Im O b c) : Rely Im O a c :=
  ⟨k.os.trans h.os, k.tape.trans h.tape, k.output.trans h.output, Nat.le_trans h.size k.size, fun i hi hm => (k.block i (Nat.lt_of_lt_of_le hi h.size) hm).trans (h.block i hi hm)⟩
theorem Rely.drew (Im O : Nat → Prop) (w : World) (d : Nat) : Rely Im O w { w with drawn := d } := ⟨rfl, rfl, rfl, Nat.le_refl _, fun _ _ _ => rfl⟩
def grow (O : Nat → Prop) (w w' : World) (b : Nat) : Prop := O b ∨ (w.heap.size ≤ b ∧ b < w'.heap.size)
theorem grow_self (O : Nat → Prop) (w : World) : grow O w w = O := funext fun b => propext ⟨fun h => h.elim id fun h => absurd h.1 (by omega), .inl⟩
def EvOk (Im O : Nat → Prop) (e : Event) : Prop :=
  match e.loc with
  | .cell a => O a.block ∨ (e.write = false ∧ Im a.block)
  | .obj r => O r
  | .mark .noRoom => True
  | _ => False
theorem EvOk.mono {Im O O' : Nat → Prop} (h : ∀ b, O b → O' b) {e : Event} (he : EvOk Im O e) : EvOk Im O' e := by
  unfold EvOk at *
  split
  · rename_i a ha; rw [ha] at he; exact he.imp (h _) id
  · rename_i r hr; rw [hr] at he; exact h _ he
  · trivial
  · rename_i h1 h2 h3; split at he
    · exact absurd ‹_› (h1 _)
    · exact absurd ‹_› (h2 _)
    · exact absurd ‹_› h3
    · exact he
structure Guar (Im O : Nat → Prop) (w w' : World) (es : Array Event) : Prop where
  os : w'.os = w.os
  tape : w'.tape = w.tape
  output : w'.output = w.output
  size : w.heap.size ≤ w'.heap.size
  block : ∀ b, b < w.heap.size → ¬ O b → w'.heap[b]? = w.heap[b]?
  evs : ∀ e ∈ es, EvOk Im (grow O w w') e
theorem Guar.idle (Im O : Nat → Prop) (w : World) : Guar Im O w w #[] := ⟨rfl, rfl, rfl, Nat.le_refl _, fun _ _ _ => rfl, fun _ h => absurd h (Array.not_mem_empty _)⟩
theorem Guar.drew (Im O : Nat → Prop) (w : World) (d : Nat) : Guar Im O w { w with drawn := d } #[] := ⟨rfl, rfl, rfl, Nat.le_refl _, fun _ _ _ => rfl, fun _ h => absurd h (Array.not_mem_empty _)⟩
inductive GoesO (P : Program) (main : Bool) (Im : Nat → Prop) (Stop : (Nat → Prop) → Goroutine → World → Prop) : (Nat → Prop) → Goroutine → World → Prop
  | stop {O : Nat → Prop} {g : Goroutine} {w : World} (h : ∀ w₁, Rely Im O w w₁ → Stop O g w₁) : GoesO P main Im Stop O g w
  | step {O : Nat → Prop} {g : Goroutine} {w : World} (hs : g.status = .running)
      (h1 : ∀ w₁, Rely Im O w w₁ → ∃ g' w' es, stepG P main g w₁ = .go g' w' es ∧ Guar Im O w₁ w' es)
      (h2 : ∀ w₁, Rely Im O w w₁ → ∀ g' w' es, stepG P main g w₁ = .go g' w' es → GoesO P main Im Stop (grow O w₁ w') g' w') : GoesO P main Im Stop O g w
section
variable {P : Program} {main : Bool} {Im : Nat → Prop} {Stop : (Nat → Prop) → Goroutine → World → Prop} {O : Nat → Prop} {g : Goroutine} {w w₁ : World}
theorem GoesO.rely (h : GoesO P main Im Stop O g w) (hr : Rely Im O w w₁) : GoesO P main Im Stop O g w₁ := by
  cases h with
  | stop h => exact .stop fun w₂ h₂ => h w₂ (hr.trans h₂)
  | step hs h1 h2 => exact .step hs (fun w₂ h₂ => h1 w₂ (hr.trans h₂)) fun w₂ h₂ => h2 w₂ (hr.trans h₂)
theorem GoesO.move {g' : Goroutine} (hs : g.status = .running) (h : ∀ w₁, stepG P main g w₁ = .go g' w₁ #[]) (hg : GoesO P main Im Stop O g' w) : GoesO P main Im Stop O g w :=
  .step hs (fun w₁ _ => ⟨_, _, _, h w₁, Guar.idle _ _ _⟩) fun w₁ h₁ g₂ w₂ es e => by
    rw [h w₁] at e
    cases e
    rw [grow_self]
    exact hg.rely h₁
theorem GoesO.one (hs : g.status = .running) (h : ∀ w₁, Rely Im O w w₁ → ∃ g' w' es, stepG P main g w₁ = .go g' w' es ∧ Guar Im O w₁ w' es ∧ GoesO P main Im Stop (grow O w₁ w') g' w') : GoesO P main Im Stop O g w :=
  .step hs (fun w₁ h₁ => let ⟨g', w', es, a, b, _⟩ := h w₁ h₁; ⟨g', w', es, a, b⟩) fun w₁ h₁ g₂ w₂ es e => by
    obtain ⟨g', w', es', a, b, c⟩ := h w₁ h₁
    rw [a] at e
    cases e
    exact c
end
structure Mn where
  b : Bool
  Stop : (Nat → Prop) → Goroutine → World → Prop
def AfterO (P : Program) (main : Mn) (Im : Nat → Prop) (b : Frame) (k : List Item) (cs : List Frame) : Exit → Act → World → (Nat → Prop) → Prop
  | .normal, a, w, O => GoesO P main.b Im main.Stop O (G (b.at a k) cs) w
  | .exit id, a, w, O => ∃ k', exitTo id k = some k' ∧ GoesO P main.b Im main.Stop O (G (b.at a k') cs) w
  | .ret, a, w, O => ∀ todo, GoesO P main.b Im main.Stop O (G { b.at a todo with mode := .returning } cs) w
  | _, _, _, _ => False
theorem AfterO.push {P : Program} {main : Mn} {Im : Nat → Prop} {b : Frame} {x : Item} {k : List Item} {cs : List Frame} {e : Exit} {a : Act} {w : World} {O : Nat → Prop} (hx : x.plain = true) (he : e ≠ .normal)
    (h : AfterO P main Im b k cs e a w O) : AfterO P main Im b (x :: k) cs e a w O := by
  cases e with
  | normal => exact absurd rfl he
  | exit id => obtain ⟨k', hk, hg⟩ := h; exact ⟨k', by cases x <;> simp_all [exitTo, Item.plain], hg⟩
  | ret => exact h
  | goto l => exact h
  | panic ch => exact h
  | outgrown => exact h
abbrev PostO := Exit → Act → World → (Nat → Prop) → Prop
def wpO (P : Program) (main : Mn) (Im : Nat → Prop) (fn : FuncId) (c : Code) (Q : PostO) (a : Act) (w : World) (O : Nat → Prop) : Prop :=
  ∀ (b : Frame) (k : List Item) (cs : List Frame), b.fn = fn → b.kind ≠ .early →
    (∀ e a' w' O', Q e a' w' O' → AfterO P main Im b k cs e a' w' O') → GoesO P main.b Im main.Stop O (G (b.at a (.code c :: k)) cs) w
def opsO (P : Program) (main : Mn) (Im : Nat → Prop) (fn : FuncId) (ops : Array Oper) (todo : List Nat) (Q : PostO) (a : Act) (w : World) (O : Nat → Prop) : Prop :=
  ∀ (b : Frame) (k : List Item) (cs : List Frame), b.fn = fn → b.kind ≠ .early →
    (∀ e a' w' O', Q e a' w' O' → AfterO P main Im b k cs e a' w' O') → GoesO P main.b Im main.Stop O (G (b.at a (.inRegion ops todo :: k)) cs) w
section
variable {P : Program} {main : Mn} {Im : Nat → Prop} {fn : FuncId} {Q : PostO} {a : Act} {w : World} {O : Nat → Prop}
theorem wpO_mono {c : Code} {Q' : PostO} (h : wpO P main Im fn c Q a w O) (hq : ∀ e a w O, Q e a w O → Q' e a w O) : wpO P main Im fn c Q' a w O :=
  fun b k cs hb hk hc => h b k cs hb hk fun e a' w' O' q => hc e a' w' O' (hq e a' w' O' q)
theorem wpO_rely {c : Code} {w₁ : World} (h : wpO P main Im fn c Q a w O) (hr : Rely Im O w w₁) : wpO P main Im fn c Q a w₁ O :=
  fun b k cs hb hk hc => (h b k cs hb hk hc).rely hr
theorem wpO_skip (h : Q .normal a w O) : wpO P main Im fn .skip Q a w O := fun b k cs _ _ hc => .move rfl (fun w₁ => stepG_skip) (hc _ _ _ _ h)
theorem wpO_ret (h : Q .ret a w O) : wpO P main Im fn .ret Q a w O := fun b k cs _ _ hc => .move rfl (fun w₁ => stepG_ret') (hc _ _ _ _ h _)
theorem wpO_exit {id : Nat} (h : Q (.exit id) a w O) : wpO P main Im fn (.exit id) Q a w O := fun b k cs _ _ hc => by
  obtain ⟨k', hk', hg⟩ := hc _ _ _ _ h
  exact .move rfl (fun w₁ => stepG_exit hk') hg
theorem wpO_seq {x y : Code} (h : wpO P main Im fn x (fun e a' w' O' => match e with
    | .normal => wpO P main Im fn y Q a' w' O'
    | e => Q e a' w' O') a w O) : wpO P main Im fn (.seq x y) Q a w O := fun b k cs hb hk hc => by
  refine .move rfl (fun w₁ => stepG_seq) (h b (.code y :: k) cs hb hk fun e a' w' O' q => ?_)
  cases e with
  | normal => exact q b k cs hb hk hc
  | exit id => exact (hc _ _ _ _ q).push rfl (by simp)
  | ret => exact (hc _ _ _ _ q).push (x := .code y) rfl (by simp)
  | goto l => exact hc _ _ _ _ q
  | panic ch => exact hc _ _ _ _ q
  | outgrown => exact hc _ _ _ _ q
theorem wpO_cond {c : Operand} {x y : Code} {t : Bool} (hc : a.eval c = .bool t) (h : wpO P main Im fn (if t then x else y) Q a w O) : wpO P main Im fn (.cond c x y) Q a w O :=
  fun b k cs hb hk hq => .move rfl (fun w₁ => stepG_cond hc) (h b k cs hb hk hq)
theorem wpO_block {id : Nat} {c : Code} (h : wpO P main Im fn c (fun e a' w' O' => match e with
    | .exit id' => if id' = id then Q .normal a' w' O' else Q (.exit id') a' w' O'
    | e => Q e a' w' O') a w O) : wpO P main Im fn (.block id c) Q a w O := fun b k cs hb hk hc => by
  refine .move rfl (fun w₁ => stepG_block) (h b (.inBlock id :: k) cs hb hk fun e a' w' O' q => ?_)
  cases e with
  | normal => exact .move rfl (fun w₁ => stepG_inBlock) (hc _ _ _ _ q)
  | exit id' =>
    by_cases hid : id' = id
    · simp only [hid, if_true] at q
      exact ⟨k, by simp [exitTo, hid], hc _ _ _ _ q⟩
    · simp only [hid, if_false] at q
      obtain ⟨k', hk', hg⟩ := hc _ _ _ _ q
      have : (id == id') = false := by simp; exact fun h => hid h.symm
      exact ⟨k', by simp [exitTo, this, hk'], hg⟩
  | ret => exact fun todo => hc _ _ _ _ q todo
  | goto l => exact hc _ _ _ _ q
  | panic ch => exact hc _ _ _ _ q
  | outgrown => exact hc _ _ _ _ q
theorem wpO_loop {c : Code} (I : Nat → Act → World → (Nat → Prop) → Prop) {m : Nat} (h0 : I m a w O)
    (round : ∀ m a w O, I m a w O → wpO P main Im fn c (fun e a' w' O' => match e with
      | .normal => ∃ m', m' < m ∧ I m' a' w' O'
      | e => Q e a' w' O') a w O) : wpO P main Im fn (.loop c) Q a w O := fun b k cs hb hk hc => by
  refine .move rfl (fun w₁ => stepG_loop) ?_
  have key : ∀ N m a w O, m < N → I m a w O → GoesO P main.b Im main.Stop O (G (b.at a (.code c :: .inLoop c :: k)) cs) w := by
    intro N
    induction N with
    | zero => intro m a w O h; omega
    | succ N ih =>
      intro m a w O hm hI
      refine round m a w O hI b (.inLoop c :: k) cs hb hk fun e a' w' O' q => ?_
      cases e with
      | normal => obtain ⟨m', h1, h2⟩ := q; exact .move rfl (fun w₁ => stepG_inLoop) (ih m' a' w' O' (by omega) h2)
      | exit id => exact (hc _ _ _ _ q).push rfl (by simp)
      | ret => exact (hc _ _ _ _ q).push (x := .inLoop c) rfl (by simp)
      | goto l => exact hc _ _ _ _ q
      | panic ch => exact hc _ _ _ _ q
      | outgrown => exact hc _ _ _ _ q
  exact key (m + 1) m a w O (Nat.lt_succ_self m) h0
theorem wpO_region {id : Nat} {ops : Array Oper} (h : opsO P main Im fn ops (List.range ops.size) Q a w O) : wpO P main Im fn (.region id ops false) Q a w O :=
  fun b k cs hb hk hc => .move rfl (fun w₁ => stepG_region) (h b k cs hb hk hc)
theorem opsO_nil {ops : Array Oper} (h : Q .normal a w O) : opsO P main Im fn ops [] Q a w O := fun b k cs _ _ hc => .move rfl (fun w₁ => stepG_region_end) (hc _ _ _ _ h)
theorem wpO_draw {id : Nat} {ops : Array Oper} (h : ∀ w₁, Rely Im O w w₁ → ∀ t, opsO P main Im fn ops (Region.schedule (P.follows .mixedOrders) ops t) Q a { w₁ with drawn := w₁.drawn + 1 } O) : wpO P main Im fn (.region id ops true) Q a w O :=
  fun b k cs hb hk hc => .one rfl fun w₁ h₁ => ⟨_, _, _, stepG_region_draw, Guar.drew _ _ _ _, by
    have e : grow O w₁ { w₁ with drawn := w₁.drawn + 1 } = O := grow_self O w₁
    rw [e]
    exact h w₁ h₁ _ b k cs hb hk hc⟩
end
def CallsO (P : Program) (main : Mn) (Im : Nat → Prop) (f : FuncId) (args : Array Value) (w : World) (O : Nat → Prop) (Post : Value → World → (Nat → Prop) → Prop) : Prop :=
  ∃ fn c, P.funcs[f]? = some fn ∧ (fn.name == "runtime.NumGoroutine") = false ∧ fn.body = some c ∧
    wpO P main Im f c (fun e a' w' O' => match e with
      | .normal | .ret => a'.defers = [] ∧ ∀ w₁, Rely Im O' w' w₁ → ∃ v, (results fn a'.tmps).run P w₁ = .ok v w₁ ∧ Guar Im O' w₁ w₁ ((results fn a'.tmps).events P w₁ #[]) ∧ Post v w₁ O'
      | _ => False) { tmps := args ++ Array.replicate (fn.ntmps - args.size) undef, defers := [] } w O
theorem CallsO.mono {P : Program} {main : Mn} {Im : Nat → Prop} {f : FuncId} {args : Array Value} {w : World} {O : Nat → Prop} {Post Post' : Value → World → (Nat → Prop) → Prop} (h : CallsO P main Im f args w O Post) (hp : ∀ v w O, Post v w O → Post' v w O) :
    CallsO P main Im f args w O Post' := by
  obtain ⟨fn, c, h1, h2, h3, h4⟩ := h
  refine ⟨fn, c, h1, h2, h3, wpO_mono h4 fun e a w O q => ?_⟩
  cases e <;> first | exact ⟨q.1, fun w₁ h₁ => let ⟨v, r1, r2, r3⟩ := q.2 w₁ h₁; ⟨v, r1, r2, hp _ _ _ r3⟩⟩ | exact q
theorem Guar.seen {Im O : Nat → Prop} {w w' : World} {es : Array Event} (h : Guar Im O w w' es) (P : Program) (fn : FuncId) : Guar Im O w w' (seen P fn es) :=
  ⟨h.os, h.tape, h.output, h.size, h.block, fun e he => h.evs e (mem_seen he)⟩
section
variable {P : Program} {main : Bool} {b : Frame} {a : Act} {k : List Item} {cs : List Frame} {w : World}
theorem stepG_leaveE {fn : Func} {todo : List Item} {c : Frame} {v : Value} (hn : b.kind = .normal) (hd : a.defers = []) (hf : P.funcs[b.fn]? = some fn)
    (hr : (results fn a.tmps).run P w = .ok v w) :
    stepG P main (G { b.at a todo with mode := .returning } (c :: cs)) w = .go (G (c.finish v) cs) w (seen P b.fn ((results fn a.tmps).events P w #[])) := by
  simp [G, stepG, unwind, doReturn, Frame.at, hn, hd, hf, hr, GStep.after]
end
def uponO (P : Program) (main : Mn) (Im : Nat → Prop) (o : Oper) (a : Act) (O : Nat → Prop) (w : World) (es : Array Event) (K : Act → World → (Nat → Prop) → Prop) : Result Next → Prop
  | .ok (.value v) w' => Guar Im O w w' es ∧ K (a.put o.dst v) w' (grow O w w')
  | .ok .skip w' => Guar Im O w w' es ∧ K (a.put o.dst undef) w' (grow O w w')
  | .ok (.enter f args) w' => w' = w ∧ es = #[] ∧ CallsO P main Im f args w O fun v w'' O'' => K (a.put o.dst v) w'' O''
  | _ => False
def opO (P : Program) (main : Mn) (Im : Nat → Prop) (o : Oper) (K : Act → World → (Nat → Prop) → Prop) (a : Act) (w : World) (O : Nat → Prop) : Prop :=
  ∀ w₁, Rely Im O w w₁ → uponO P main Im o a O w₁ ((execOp a.eval o).events P w₁ #[]) K ((execOp a.eval o).run P w₁)
theorem uponO_mono {P : Program} {main : Mn} {Im : Nat → Prop} {o : Oper} {a : Act} {O : Nat → Prop} {w : World} {es : Array Event} {K K' : Act → World → (Nat → Prop) → Prop} (h : ∀ a w O, K a w O → K' a w O) {r : Result Next} (hh : uponO P main Im o a O w es K r) : uponO P main Im o a O w es K' r := by
  cases r with
  | ok n w' => cases n <;> first | exact ⟨hh.1, h _ _ _ hh.2⟩ | exact ⟨hh.1, hh.2.1, hh.2.2.mono fun v w O q => h _ _ _ q⟩ | exact hh
  | halt x w' => exact hh
theorem opO_mono {P : Program} {main : Mn} {Im : Nat → Prop} {o : Oper} {a : Act} {O : Nat → Prop} {w : World} {K K' : Act → World → (Nat → Prop) → Prop} (h : ∀ a w O, K a w O → K' a w O) (hh : opO P main Im o K a w O) : opO P main Im o K' a w O :=
  fun w₁ h₁ => uponO_mono h (hh w₁ h₁)
theorem opO_rely {P : Program} {main : Mn} {Im : Nat → Prop} {o : Oper} {a : Act} {O : Nat → Prop} {w w₁ : World} {K : Act → World → (Nat → Prop) → Prop} (hh : opO P main Im o K a w O) (hr : Rely Im O w w₁) : opO P main Im o K a w₁ O :=
  fun w₂ h₂ => hh w₂ (hr.trans h₂)
section
variable {P : Program} {main : Mn} {Im : Nat → Prop} {fn : FuncId} {Q : PostO} {a : Act} {w : World} {O : Nat → Prop}
theorem GoesO.enter {b : Frame} {k : List Item} {cs : List Frame} {ops : Array Oper} {i : Nat} {rest : List Nat} {o : Oper} {f : FuncId} {args : Array Value} {Post : Value → World → (Nat → Prop) → Prop} (ho : ops[i]? = some o)
    (hcall : CallsO P main Im f args w O Post) (hnext : ∀ v w' O', Post v w' O' → GoesO P main.b Im main.Stop O' (G (b.at (a.put o.dst v) (.inRegion ops rest :: k)) cs) w') :
    GoesO P main.b Im main.Stop O (G (Frame.enter P f args .normal) (b.at a (.inRegion ops (i :: rest) :: k) :: cs)) w := by
  obtain ⟨fn, c, hf, hname, hbody, hwp⟩ := hcall
  have hfin : ∀ v, (b.at a (.inRegion ops (i :: rest) :: k)).finish v = b.at (a.put o.dst v) (.inRegion ops rest :: k) := fun v => by rw [Frame.finish_at, ho]; rfl
  rw [enter_at _ hf hbody]
  have hleave : ∀ (a' : Act) (w' : World) (O' : Nat → Prop) (todo : List Item), (a'.defers = [] ∧ ∀ w₁, Rely Im O' w' w₁ → ∃ v, (results fn a'.tmps).run P w₁ = .ok v w₁ ∧ Guar Im O' w₁ w₁ ((results fn a'.tmps).events P w₁ #[]) ∧ Post v w₁ O') →
      GoesO P main.b Im main.Stop O' (G { (base f).at a' todo with mode := .returning } (b.at a (.inRegion ops (i :: rest) :: k) :: cs)) w' := by
    rintro a' w' O' todo ⟨hd, hr⟩
    refine .one rfl fun w₁ h₁ => ?_
    obtain ⟨v, r1, r2, r3⟩ := hr w₁ h₁
    refine ⟨G ((b.at a (.inRegion ops (i :: rest) :: k)).finish v) cs, w₁, _, stepG_leaveE (b := base f) rfl hd hf r1, r2.seen P f, ?_⟩
    rw [grow_self, hfin]
    exact hnext v w₁ O' r3
  refine hwp (base f) [] _ rfl (by simp [base]) fun e a' w' O' q => ?_
  cases e with
  | normal => exact .move rfl (fun w₁ => stepG_end) (hleave a' w' O' [] q)
  | ret => exact fun todo => hleave a' w' O' todo q
  | exit id => exact q.elim
  | goto l => exact q.elim
  | panic ch => exact q.elim
  | outgrown => exact q.elim
theorem opsO_cons {ops : Array Oper} {i : Nat} {rest : List Nat} {o : Oper} (ho : ops[i]? = some o) (hw : Region.wanted o (yielded ops a.tmps) = true)
    (h : opO P main Im o (fun a' w' O' => opsO P main Im fn ops rest Q a' w' O') a w O) : opsO P main Im fn ops (i :: rest) Q a w O := by
  intro b k cs hb hk hc
  refine .one rfl fun w₁ h₁ => ?_
  have hh := h w₁ h₁
  generalize hr : (execOp a.eval o).run P w₁ = r at hh
  cases r with
  | halt x w' => exact hh.elim
  | ok n w' =>
    cases n <;> first | exact hh.elim | skip
    · exact ⟨_, _, _, stepG_value ho hw hk hr, hh.1.seen P b.fn, hh.2 b k cs hb hk hc⟩
    · exact ⟨_, _, _, stepG_none ho hw hk hr, hh.1.seen P b.fn, hh.2 b k cs hb hk hc⟩
    · obtain ⟨rfl, he, hcall⟩ := hh
      refine ⟨_, _, _, stepG_enter ho hw hk hr, ?_, ?_⟩
      · unfold listed; rw [he]; exact (Guar.idle _ _ _).seen P b.fn
      · rw [grow_self]
        exact GoesO.enter ho hcall fun v w' O' q => q b k cs hb hk hc
theorem opsO_unwanted {ops : Array Oper} {i : Nat} {rest : List Nat} {o : Oper} (ho : ops[i]? = some o) (hw : Region.wanted o (yielded ops a.tmps) = false)
    (h : opsO P main Im fn ops rest Q (a.put o.dst undef) w O) : opsO P main Im fn ops (i :: rest) Q a w O :=
  fun b k cs hb hk hc => .move rfl (fun w₁ => stepG_unwanted ho hw) (h b k cs hb hk hc)
def listO (P : Program) (main : Mn) (Im : Nat → Prop) (ops : Array Oper) (Q : PostO) : List Oper → Act → World → (Nat → Prop) → Prop
  | [], a, w, O => Q .normal a w O
  | o :: rest, a, w, O => if Region.wanted o (yielded ops a.tmps) then opO P main Im o (listO P main Im ops Q rest) a w O else listO P main Im ops Q rest (a.put o.dst undef) w O
theorem opsO_list {ops : Array Oper} : ∀ (l : List Oper) (k : Nat) (a : Act) (w : World) (O : Nat → Prop), (∀ j, j < l.length → l[j]? = ops[k + j]?) → listO P main Im ops Q l a w O → opsO P main Im fn ops (List.range' k l.length) Q a w O
  | [], k, a, w, O, _, h => opsO_nil h
  | o :: l, k, a, w, O, hl, h => by
    have h0 : ops[k]? = some o := by simpa using (hl 0 (by simp)).symm
    have hl' : ∀ j, j < l.length → l[j]? = ops[k + 1 + j]? := fun j hj => by have := hl (j + 1) (by simp; omega); simpa [Nat.add_assoc, Nat.add_comm 1 j] using this
    simp only [List.length_cons, List.range'_succ]
    unfold listO at h
    split at h
    · rename_i hw; exact opsO_cons h0 hw (opO_mono (fun a' w' O' x => opsO_list l (k + 1) a' w' O' hl' x) h)
    · rename_i hw; exact opsO_unwanted h0 (by simpa using hw) (opsO_list l (k + 1) _ _ _ hl' h)
theorem wpO_region_lit {id : Nat} {l : List Oper} (h : listO P main Im l.toArray Q l a w O) : wpO P main Im fn (.region id l.toArray false) Q a w O := by
  refine wpO_region ?_
  have := opsO_list (fn := fn) (ops := l.toArray) l 0 a w O (fun j hj => by simp) h
  rw [List.range_eq_range']
  simpa using this
def opiO (P : Program) (main : Mn) (Im : Nat → Prop) (ops : Array Oper) (i : Nat) (K : Act → World → (Nat → Prop) → Prop) (a : Act) (w : World) (O : Nat → Prop) : Prop :=
  match ops[i]? with
  | none => False
  | some o => if Region.wanted o (yielded ops a.tmps) then opO P main Im o K a w O else K (a.put o.dst undef) w O
theorem opiO_mono {ops : Array Oper} {i : Nat} {K K' : Act → World → (Nat → Prop) → Prop} (h : ∀ a w O, K a w O → K' a w O) (hh : opiO P main Im ops i K a w O) : opiO P main Im ops i K' a w O := by
  unfold opiO at *
  split
  · simp_all
  · rename_i o ho
    simp only [ho] at hh
    split
    · rename_i hw; simp only [hw, if_true] at hh; exact opO_mono h hh
    · rename_i hw; simp only [hw] at hh; exact h _ _ _ hh
theorem opsO_of_opi {ops : Array Oper} {i : Nat} {rest : List Nat} (h : opiO P main Im ops i (fun a' w' O' => opsO P main Im fn ops rest Q a' w' O') a w O) : opsO P main Im fn ops (i :: rest) Q a w O := by
  unfold opiO at h
  split at h
  · exact h.elim
  · rename_i o ho
    split at h
    · rename_i hw; exact opsO_cons ho hw h
    · rename_i hw; exact opsO_unwanted ho (by simpa using hw) h
def anyO (P : Program) (main : Mn) (Im : Nat → Prop) (md : Region.Mode) (ops : Array Oper) (Q : PostO) (S : Array Bool → World → (Nat → Prop) → Prop) : Nat → Array Bool → Act → World → (Nat → Prop) → Prop
  | 0, listed, a, w, O => Region.ready md ops listed = [] ∧ Q .normal a w O
  | fuel + 1, listed, a, w, O =>
    (Region.ready md ops listed = [] → Q .normal a w O) ∧
    ∀ i ∈ Region.ready md ops listed, opiO P main Im ops i (fun a' w' O' => S (listed.setIfInBounds i true) w' O' ∧ anyO P main Im md ops Q S fuel (listed.setIfInBounds i true) a' w' O') a w O
theorem anyO_sound {md : Region.Mode} {ops : Array Oper} {S : Array Bool → World → (Nat → Prop) → Prop} : ∀ (fuel t : Nat) (listed : Array Bool) (a : Act) (w : World) (O : Nat → Prop), anyO P main Im md ops Q S fuel listed a w O →
    opsO P main Im fn ops (Region.linearise.go md ops fuel t listed []) Q a w O := by
  intro fuel
  induction fuel with
  | zero => intro t listed a w O h; simpa [Region.linearise.go] using opsO_nil h.2
  | succ fuel ih =>
    intro t listed a w O h
    obtain ⟨h₀, h₁⟩ := h
    simp only [Region.linearise.go]
    change opsO P main Im fn ops (match (Region.ready md ops listed)[t % (Region.ready md ops listed).length]? with
      | some i => Region.linearise.go md ops fuel (t / (Region.ready md ops listed).length) (listed.setIfInBounds i true) [i]
      | none => [].reverse) Q a w O
    cases hi : (Region.ready md ops listed)[t % (Region.ready md ops listed).length]? with
    | none =>
      have hnil : Region.ready md ops listed = [] := by
        cases hr : Region.ready md ops listed with
        | nil => rfl
        | cons x xs =>
          rw [hr] at hi
          have hlt : t % (x :: xs).length < (x :: xs).length := Nat.mod_lt _ (by simp)
          simp at hi
          simp at hlt
          omega
      exact by simpa using opsO_nil (h₀ hnil)
    | some i =>
      simp only []
      rw [linearise_go_acc, List.reverse_singleton, List.singleton_append]
      exact opsO_of_opi (opiO_mono (fun a' w' O' x => ih _ _ a' w' O' x.2) (h₁ i (List.mem_of_getElem? hi)))
theorem wpO_region_any {id : Nat} {ops : Array Oper} {S : Array Bool → World → (Nat → Prop) → Prop} (hm : P.follows .mixedOrders = true)
    (h : ∀ w₁, Rely Im O w w₁ → anyO P main Im .any ops Q S ops.size (Array.replicate ops.size false) a { w₁ with drawn := w₁.drawn + 1 } O) : wpO P main Im fn (.region id ops true) Q a w O :=
  wpO_draw fun w₁ h₁ t => by
    simp only [Region.schedule, hm, Bool.true_or, if_true]
    exact anyO_sound ops.size t _ a _ O (h w₁ h₁)
end
end Go.Proofs.Ytkfmphlnpmemdaa.Sx
