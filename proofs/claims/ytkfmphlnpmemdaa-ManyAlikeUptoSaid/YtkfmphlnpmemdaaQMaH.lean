import Derived.Test.YtkfmphlnpmemdaaQMaF
import Derived.Test.YtkfmphlnpmemdaaQMaA
import Derived.Test.YtkfmphlnpmemdaaQSxA
set_option linter.unusedVariables false
namespace Go.Proofs.Ytkfmphlnpmemdaa.Sx
open Go Go.Conc Go.ConcN
open Go.ConcR (KK wgBlock WgAt stA smA)
def setF {α : Type} (f : Nat → α) (i : Nat) (v : α) (j : Nat) : α := if j = i then v else f j
theorem setF_same {α : Type} {f : Nat → α} {i : Nat} {v : α} : setF f i v i = v := if_pos rfl
theorem setF_ne {α : Type} {f : Nat → α} {i j : Nat} {v : α} (h : j ≠ i) : setF f i v j = f j := if_neg h
inductive Kd where
  | free | own (g : Nat) | imm | lent | fz (g : Nat) | pay | chan | wg
inductive Tg where
  | opn | add | w3 | fin
structure Ph0 where
  Wg : Nat
  Ch : Nat
  β : BK
  N : Nat
  f0 : Nat
  w0 : World
  post : Nat → (Nat → D) → Prop
structure Ph where
  c : Ph0
  tag : Tg
  q : Nat
  tk : Nat → Option Nat
  dn : Nat → Prop
  get : Nat → Nat → D
structure Gh where
  n : Nat
  kd : Nat → Kd
  st : Nat → Nat
  df : Nat → Nat
  ph : Option Ph
def Gh.own (σ : Gh) (g b : Nat) : Prop := σ.kd b = .own g
def Gh.im (σ : Gh) (g b : Nat) : Prop := σ.kd b = .imm ∨ (g ≠ 0 ∧ (σ.kd b = .lent ∨ σ.kd b = .fz g))
def Gh.elder (σ : Gh) (g : Nat) : Prop := ∀ p, σ.ph = some p → g < p.c.f0
theorem elder_some {σ : Gh} {p : Ph} (hp : σ.ph = some p) {g : Nat} : σ.elder g ↔ g < p.c.f0 := ⟨fun h => h p hp, fun h p' e => by rw [hp] at e; cases e; exact h⟩
def Gh.still (σ : Gh) (b : Nat) : Prop := σ.kd b = .imm ∨ (∃ g, σ.kd b = .fz g) ∨ σ.kd b = .lent
def dSh (σ : Gh) : Loc → Prop
  | .cell a => σ.kd a.block = .wg
  | _ => False
def dOwn (σ : Gh) (g : Nat) : Loc → Prop
  | .cell a => σ.kd a.block = .own g ∨ σ.kd a.block = .fz g ∨ (σ.kd a.block = .pay ∧ ∃ p, σ.ph = some p ∧ p.tk ((a.off - p.c.β.o) / 6) = some g)
  | .obj r => σ.kd r = .own g ∨ σ.kd r = .fz g
  | _ => False
def dRo (σ : Gh) (g : Nat) : Loc → Prop
  | .cell a => σ.kd a.block = .imm ∨ (σ.kd a.block = .lent ∧ (g = 0 ∨ ∃ p, σ.ph = some p ∧ p.c.f0 ≤ g ∧ g < σ.n))
  | _ => False
def deal (σ : Gh) : Deal := ⟨dSh σ, dOwn σ, dRo σ, fun _ _ => False⟩
theorem deal_fair (σ : Gh) : (deal σ).Fair := by
  refine ⟨fun {g g' l} h h' => ?_, fun {g g' l} h h' => ?_, fun {g l} h h' => ?_, fun {g l} h h' => ?_, fun h => h.elim, fun h => h.elim, fun h => h.elim⟩
  · cases l with
    | cell a =>
      rcases h with h | h | ⟨h, p, hp, hk⟩ <;> rcases h' with h' | h' | ⟨h', p', hp', hk'⟩ <;> rw [h] at h' <;> first | (cases h'; rfl) | (cases h'; done) | skip
      rw [hp] at hp'; cases hp'; rw [hk] at hk'; cases hk'; rfl
    | obj r => rcases h with h | h <;> rcases h' with h' | h' <;> rw [h] at h' <;> cases h' <;> rfl
    | _ => exact h.elim
  · cases l with
    | cell a => rcases h with h | h | ⟨h, _⟩ <;> rcases h' with h' | ⟨h', _⟩ <;> rw [h] at h' <;> cases h'
    | _ => exact h'.elim
  · cases l with
    | cell a => have h' : σ.kd a.block = .wg := h'; rcases h with h | h | ⟨h, _⟩ <;> rw [h] at h' <;> cases h'
    | _ => exact h'.elim
  · cases l with
    | cell a => have h' : σ.kd a.block = .wg := h'; rcases h with h | ⟨h, _⟩ <;> rw [h] at h' <;> cases h'
    | _ => exact h'.elim
def vc (s : Nat → Nat) (f : Nat) : Nat → Nat
  | 0 => 0
  | m + 1 => vc s f m + if 5 ≤ s (f + m) then 1 else 0
theorem vc_le (s : Nat → Nat) (f : Nat) : ∀ m, vc s f m ≤ m
  | 0 => Nat.le_refl _
  | m + 1 => by have := vc_le s f m; simp only [vc]; split <;> omega
theorem vc_mono {s s' : Nat → Nat} {f : Nat} : ∀ {m : Nat}, (∀ i, f ≤ i → i < f + m → s' i ≤ s i) → vc s' f m ≤ vc s f m
  | 0, _ => Nat.le_refl _
  | m + 1, h => by
    have h1 := vc_mono (s := s) (s' := s') (f := f) (m := m) fun i a b => h i a (by omega)
    have h2 := h (f + m) (by omega) (by omega)
    simp only [vc]
    by_cases h5 : 5 ≤ s' (f + m)
    · rw [if_pos h5, if_pos (by omega)]; omega
    · rw [if_neg h5]; omega
theorem vc_congr {s s' : Nat → Nat} {f m : Nat} (h : ∀ i, f ≤ i → i < f + m → s' i = s i) : vc s' f m = vc s f m :=
  Nat.le_antisymm (vc_mono fun i a b => by rw [h i a b]; exact Nat.le_refl _) (vc_mono fun i a b => by rw [h i a b]; exact Nat.le_refl _)
theorem vc_set {s : Nat → Nat} {f i v : Nat} : ∀ {m : Nat}, f ≤ i → i < f + m → vc (setF s i v) f m + (if 5 ≤ s i then 1 else 0) = vc s f m + (if 5 ≤ v then 1 else 0)
  | 0, h, h' => by omega
  | m + 1, h, h' => by
    simp only [vc]
    by_cases e : f + m = i
    · subst e
      rw [setF_same, vc_congr (s := s) (s' := setF s (f + m) v) fun j _ hj => setF_ne (by omega)]
      omega
    · have := vc_set (s := s) (v := v) (m := m) h (by omega)
      rw [setF_ne e]
      omega
theorem vc_pos {s : Nat → Nat} {f : Nat} : ∀ {m : Nat}, 1 ≤ vc s f m → ∃ i, f ≤ i ∧ i < f + m ∧ 5 ≤ s i
  | 0, h => by simp [vc] at h
  | m + 1, h => by
    by_cases h5 : 5 ≤ s (f + m)
    · exact ⟨f + m, by omega, by omega, h5⟩
    · simp only [vc, if_neg h5] at h
      obtain ⟨i, a, b, c⟩ := vc_pos (m := m) (by omega)
      exact ⟨i, a, by omega, c⟩
theorem vc_one {s : Nat → Nat} {f m i : Nat} (h : f ≤ i) (h' : i < f + m) (h5 : 5 ≤ s i) : 1 ≤ vc s f m := by
  have := vc_set (s := s) (v := 0) h h'
  rw [if_pos h5] at this
  simp at this
  omega
def OpenS (s : Nat → Nat) (f m : Nat) : Prop := ∀ i, f ≤ i → i < f + m → s i = 7 ∨ s i = 6 ∨ s i = 5 ∨ s i = 1
def AllQ (s : Nat → Nat) (f m : Nat) : Prop := ∀ i, f ≤ i → i < f + m → s i = 1
inductive Mode (s : Nat → Nat) (f m : Nat) : Tg → Int → Int → Prop
  | opn : OpenS s f m → Mode s f m .opn ((vc s f m : Int) * KK) 0
  | add : OpenS s f m → Mode s f m .add (((vc s f m : Int) + 1) * KK) 0
  | reg : OpenS s f m → 1 ≤ vc s f m → Mode s f m .w3 ((vc s f m : Int) * KK + 1) 0
  | last (L : Nat) : f ≤ L → L < f + m → (s L = 4 ∨ s L = 3 ∨ s L = 2) → (∀ i, f ≤ i → i < f + m → i ≠ L → s i = 1) → Mode s f m .w3 (if s L = 2 then 0 else 1) 0
  | sema : AllQ s f m → Mode s f m .w3 0 1
  | fin : AllQ s f m → Mode s f m .fin 0 0
theorem OpenS.set {s : Nat → Nat} {f m i v : Nat} (h : OpenS s f m) (hv : v = 7 ∨ v = 6 ∨ v = 5 ∨ v = 1) : OpenS (setF s i v) f m := fun j a b => by
  by_cases e : j = i
  · subst e; rw [setF_same]; exact hv
  · rw [setF_ne e]; exact h j a b
theorem AllQ.of_open {s : Nat → Nat} {f m : Nat} (h : OpenS s f m) (h0 : vc s f m = 0) : AllQ s f m := fun i a b => by
  rcases h i a b with h1 | h1 | h1 | h1
  · have := vc_one a b (s := s) (by omega); omega
  · have := vc_one a b (s := s) (by omega); omega
  · have := vc_one a b (s := s) (by omega); omega
  · exact h1
theorem Mode.low {s : Nat → Nat} {f m i v : Nat} {tg : Tg} {st sm : Int} (h : Mode s f m tg st sm) (hi : f ≤ i) (hm : i < f + m) (h5 : 5 ≤ s i) (hv : v = 7 ∨ v = 6 ∨ v = 5) : Mode (setF s i v) f m tg st sm := by
  have e : vc (setF s i v) f m = vc s f m := by
    have := vc_set (s := s) (v := v) hi hm
    rw [if_pos h5, if_pos (by omega)] at this
    omega
  have hv' : v = 7 ∨ v = 6 ∨ v = 5 ∨ v = 1 := by omega
  cases h with
  | opn h => rw [← e]; exact .opn (h.set hv')
  | add h => rw [← e]; exact .add (h.set hv')
  | reg h h' => rw [← e]; exact .reg (h.set hv') (by omega)
  | last L h1 h2 h3 h4 =>
    by_cases hL : i = L
    · subst hL; omega
    · have := h4 i hi hm hL; omega
  | sema h => have := h i hi hm; omega
  | fin h => have := h i hi hm; omega
theorem Mode.congr {s s' : Nat → Nat} {f m : Nat} {tg : Tg} {st sm : Int} (h : Mode s f m tg st sm) (e : ∀ i, f ≤ i → i < f + m → s' i = s i) : Mode s' f m tg st sm := by
  have ev := vc_congr e
  have ho : OpenS s f m → OpenS s' f m := fun h i a b => by rw [e i a b]; exact h i a b
  have ha : AllQ s f m → AllQ s' f m := fun h i a b => by rw [e i a b]; exact h i a b
  cases h with
  | opn h => rw [← ev]; exact .opn (ho h)
  | add h => rw [← ev]; exact .add (ho h)
  | reg h h' => rw [← ev]; exact .reg (ho h) (by omega)
  | last L h1 h2 h3 h4 =>
    rw [← e L h1 h2]
    exact .last L h1 h2 (by rw [e L h1 h2]; exact h3) fun i a b c => by rw [e i a b]; exact h4 i a b c
  | sema h => exact .sema (ha h)
  | fin h => exact .fin (ha h)
structure RelB (Wg : Nat) (t : Trace) (g r : Nat) : Prop where
  act : t.act? r = some (.mark (.releaseMerge (stA Wg)))
  gg : t.g? r = some g
  heard : t.heard r
  after : ∀ i x, r < i → t.g? i = some g → touchAt t i = some x → x.kind = .atomic ∧ ¬ t.heard i ∧ ∃ a, x.loc = .cell a ∧ a.block = Wg
def blkOf : Loc → Nat
  | .cell a => a.block
  | .obj r => r
  | _ => 0
def queue (q N : Nat) : Array Value := ((List.range' q (N - q)).map fun (k : Nat) => Value.int .i64 (k : Int)).toArray
theorem queue_nil (N : Nat) : queue N N = #[] := by simp [queue]
theorem queue_size (q N : Nat) : (queue q N).size = N - q := by simp [queue]
theorem queue_getD {q N : Nat} (h : q < N) : (queue q N).getD 0 undef = Value.int .i64 (q : Int) := by
  obtain ⟨m, hm⟩ : ∃ m, N - q = m + 1 := ⟨N - q - 1, by omega⟩
  simp [queue, hm, List.range'_succ]
theorem queue_tail {q N : Nat} (h : q < N) : (queue q N).extract 1 (queue q N).size = queue (q + 1) N := by
  obtain ⟨m, hm⟩ : ∃ m, N - q = m + 1 := ⟨N - q - 1, by omega⟩
  apply Array.ext'
  simp [queue, hm, List.range'_succ, show N - (q + 1) = m by omega]
  exact List.take_of_length_le (by simp)
theorem queue_push (N : Nat) : (queue 0 N).push (Value.int .i64 (N : Int)) = queue 0 (N + 1) := by
  apply Array.ext'
  simp [queue, List.range'_concat]
structure PhOk (σ : Gh) (p : Ph) (w : World) (t : Trace) : Prop where
  f1 : 1 ≤ p.c.f0
  fn : p.c.f0 ≤ σ.n
  fm : σ.n ≤ p.c.f0 + 100
  kwg : ∀ b, σ.kd b = .wg ↔ b = p.c.Wg
  kch : σ.kd p.c.Ch = .chan
  kpay : ∀ b, σ.kd b = .pay → b = p.c.β.b
  kpaN : 0 < p.c.β.s → σ.kd p.c.β.b = .pay
  s7 : ∀ g, p.c.f0 ≤ g → g < σ.n → σ.st g ≤ 7
  rel : ∀ g, p.c.f0 ≤ g → g < σ.n → σ.st g ≤ 6 → ∃ r, RelB p.c.Wg t g r
  frs : ∀ a, σ.kd a.block = .pay → p.tk ((a.off - p.c.β.o) / 6) = none → ∀ g, (g = 0 ∨ (p.c.f0 ≤ g ∧ g < σ.n)) → Perm t g (.cell a)
  stk : ∀ k g, p.tk k = some g → k < p.q ∧ p.c.f0 ≤ g ∧ g < σ.n
  tkd : ∀ k, k < p.q → ∃ g, p.tk k = some g
  qn : p.q ≤ p.c.N
  rdy : ∀ g, p.c.f0 ≤ g → g < σ.n → σ.st g ≤ 6 → p.q = p.c.N ∧ ∀ k, p.tk k = some g → p.dn k
  chn : ∃ s tm, w.heap[p.c.Ch]? = some (.chan p.c.N (queue p.q p.c.N) true s p.q tm)
  lnt : ∀ b, σ.kd b = .lent → w.heap[b]? = p.c.w0.heap[b]?
  row : BOk σ.still w p.c.β 37 6 ⟨p.c.N, p.get⟩
  don : ∀ k, k < p.c.N → p.dn k → p.c.post k (p.get k)
  mode : ∃ st sm, WgAt 52 p.c.Wg w st sm ∧ Mode σ.st p.c.f0 (σ.n - p.c.f0) p.tag st sm
structure Ok (σ : Gh) (w : World) (t : Trace) : Prop where
  n1 : 1 ≤ σ.n
  tr : TR (deal σ) σ.n t
  low : ∀ i a, touchAt t i = some a → a.loc.isMemory = true → blkOf a.loc < w.heap.size
  kdl : ∀ b, w.heap.size ≤ b → σ.kd b = .free
  deaf : ∀ i, Deaf t i = σ.df i
  nrel : ∀ a, NoRelease a t
  st1 : ∀ g, 1 ≤ g → g < σ.n → σ.elder g → σ.st g = 1
  hand : ∀ i g x, t.g? i = some g → g ≠ 0 → σ.elder g → touchAt t i = some x → Knows t 0 i ∨ (x.kind = .atomic ∧ ¬ t.heard i ∧ ∃ a, x.loc = .cell a ∧ σ.kd a.block = .free)
  phs : ∀ p, σ.ph = some p → PhOk σ p w t
  kon : ∀ b g, σ.kd b = .own g → g < σ.n
  kno : σ.ph = none → ∀ b, σ.kd b = .free ∨ σ.kd b = .own 0 ∨ σ.kd b = .imm
theorem Ok.lt {σ : Gh} {w : World} {t : Trace} (h : Ok σ w t) {b : Nat} (hb : σ.kd b ≠ .free) : b < w.heap.size := Nat.lt_of_not_le fun hl => hb (h.kdl b hl)
structure OpOk (Im O : Nat → Prop) (i : Nat) (op : MemOp) : Prop where
  g : op.g = i
  touch : ∀ x, op.act.touch? = some x → EvOk Im O ⟨x.loc, x.write, false⟩
  mem : ∀ x, op.act.touch? = some x → x.loc.isMemory = true
  mark : ∀ m, op.act = .mark m → m = .noRoom
structure Turns (O : Nat → Prop) (w w' : World) : Prop where
  os : w'.os = w.os
  tape : w'.tape = w.tape
  output : w'.output = w.output
  size : w.heap.size ≤ w'.heap.size
  block : ∀ b, b < w.heap.size → ¬ O b → w'.heap[b]? = w.heap[b]?
open Classical in
noncomputable def Gh.grown (σ : Gh) (i : Nat) (w w' : World) : Gh := { σ with kd := fun b => if w.heap.size ≤ b ∧ b < w'.heap.size then .own i else σ.kd b }
def Gh.works (σ : Gh) (i : Nat) : Prop := i = 0 ∨ σ.st i = 7
theorem grown_own (σ : Gh) (i : Nat) (w w' : World) : (σ.grown i w w').own i = grow (σ.own i) w w' := funext fun b => propext (by
  show (if w.heap.size ≤ b ∧ b < w'.heap.size then Kd.own i else σ.kd b) = .own i ↔ σ.kd b = .own i ∨ _
  split
  · exact ⟨fun _ => .inr (by assumption), fun _ => rfl⟩
  · rename_i h; exact ⟨.inl, fun h' => h'.resolve_right h⟩)
theorem touch_app {t u : Trace} {j : Nat} {a : Touch} (h : touchAt (t ++ u) j = some a) : (j < t.size ∧ touchAt t j = some a) ∨ (t.size ≤ j ∧ ∃ op, op ∈ u ∧ (t ++ u)[j]? = some op ∧ op.act.touch? = some a) := by
  obtain ⟨x, hx, hxa⟩ := touch_of h
  rcases getElem?_append_cases hx with ⟨hj, hx'⟩ | ⟨hj, hxu⟩
  · exact .inl ⟨hj, by rw [touchAt_of hx']; exact hxa⟩
  · exact .inr ⟨hj, x, hxu, hx, hxa⟩
theorem g_app {t u : Trace} {j g : Nat} (h : (t ++ u).g? j = some g) : (j < t.size ∧ t.g? j = some g) ∨ (t.size ≤ j ∧ ∃ op, op ∈ u ∧ (t ++ u)[j]? = some op ∧ op.g = g) := by
  obtain ⟨op, ho, hg⟩ := Option.map_eq_some_iff.1 h
  rcases getElem?_append_cases ho with ⟨hj, ho'⟩ | ⟨hj, hou⟩
  · exact .inl ⟨hj, by simp [Trace.g?, ho', hg]⟩
  · exact .inr ⟨hj, op, hou, ho, hg⟩
theorem opOk_ofEvents {Im O : Nat → Prop} {i : Nat} {fn : FuncId} {pos : String} {es : Array Event} (h : ∀ e ∈ es, EvOk Im O e) : ∀ op ∈ MemOp.ofEvents i fn pos es, OpOk Im O i op := by
  rw [ofEvents_eq]
  intro op hop
  obtain ⟨e, he, rfl⟩ := Array.mem_map.1 hop
  have hk := h e he
  obtain ⟨loc, wr, sy⟩ := e
  cases loc with
  | cell a => exact ⟨rfl, fun x hx => by simp [MemAct.ofEvent, MemAct.touch?] at hx; subst hx; exact hk, fun x hx => by simp [MemAct.ofEvent, MemAct.touch?] at hx; subst hx; rfl, fun m hm => by simp [MemAct.ofEvent] at hm⟩
  | obj r =>
    refine ⟨rfl, fun x hx => ?_, fun x hx => ?_, fun m hm => ?_⟩
    · cases wr <;> cases sy <;> simp [MemAct.ofEvent, MemAct.touch?] at hx <;> subst hx <;> exact hk
    · cases wr <;> cases sy <;> simp [MemAct.ofEvent, MemAct.touch?] at hx <;> subst hx <;> rfl
    · cases wr <;> cases sy <;> simp [MemAct.ofEvent] at hm
  | mark m =>
    have hm : m = .noRoom := by
      cases m <;> first | rfl | exact hk.elim
    subst hm
    exact ⟨rfl, fun x hx => by simp [MemAct.ofEvent, MemAct.touch?] at hx, fun x hx => by simp [MemAct.ofEvent, MemAct.touch?] at hx, fun m hm => by simp [MemAct.ofEvent] at hm; exact hm.symm⟩
  | output => exact hk.elim
  | goroutines => exact hk.elim
section
variable {σ : Gh} {w w' : World} {t u : Trace} {i : Nat}
theorem Ok.phase (h : Ok σ w t) (hi : i < σ.n) (h0 : i ≠ 0) (hs : σ.st i ≠ 1) : ∃ p, σ.ph = some p ∧ p.c.f0 ≤ i := by
  cases hp : σ.ph with
  | none => exact absurd (h.st1 i (by omega) hi fun p e => by rw [hp] at e; cases e) hs
  | some p =>
    refine ⟨p, rfl, Nat.le_of_not_lt fun hl => hs (h.st1 i (by omega) hi fun p' e => ?_)⟩
    rw [hp] at e; cases e; exact hl
theorem Ok.notElder (h : Ok σ w t) (hi : i < σ.n) (h0 : i ≠ 0) (hs : σ.st i ≠ 1) : ¬ σ.elder i := fun he => hs (h.st1 i (by omega) hi he)
theorem RelB.app {Wg g r : Nat} (h : RelB Wg t g r) (hu : ∀ j x, t.size ≤ j → (t ++ u).g? j = some g → touchAt (t ++ u) j = some x → x.kind = .atomic ∧ ¬ (t ++ u).heard j ∧ ∃ a, x.loc = .cell a ∧ a.block = Wg) : RelB Wg (t ++ u) g r := by
  have hr : r < t.size := lt_of_act? h.act
  refine ⟨by rw [act?_old hr]; exact h.act, by rw [g?_old hr]; exact h.gg, (heard_old hr).2 h.heard, fun j x hj hg hx => ?_⟩
  rcases Nat.lt_or_ge j t.size with hl | hl
  · rw [heard_old hl]
    exact h.after j x hj (by rw [← g?_old (u := u) hl]; exact hg) (by rw [← touchAt_old (u := u) hl]; exact hx)
  · exact hu j x hl hg hx
theorem RelB.other {Wg g r : Nat} (h : RelB Wg t g r) (hu : ∀ op ∈ u, op.g ≠ g) : RelB Wg (t ++ u) g r := h.app fun j x hj hg _ => by
  rcases g_app hg with ⟨hl, _⟩ | ⟨_, op, hop, _, he⟩
  · omega
  · exact absurd he (hu op hop)
theorem hand_app {K : Nat → Prop} {E : Nat → Prop} (h : ∀ i g x, t.g? i = some g → g ≠ 0 → E g → touchAt t i = some x → Knows t 0 i ∨ (x.kind = .atomic ∧ ¬ t.heard i ∧ ∃ a, x.loc = .cell a ∧ K a.block))
    (hu : ∀ op x, op ∈ u → op.g ≠ 0 → E op.g → op.act.touch? = some x → False) :
    ∀ i g x, (t ++ u).g? i = some g → g ≠ 0 → E g → touchAt (t ++ u) i = some x → Knows (t ++ u) 0 i ∨ (x.kind = .atomic ∧ ¬ (t ++ u).heard i ∧ ∃ a, x.loc = .cell a ∧ K a.block) := fun i g x hg h0 he hx => by
  rcases touch_app hx with ⟨hl, hx'⟩ | ⟨_, op, hop, ho, hxo⟩
  · rw [g?_old hl] at hg
    rw [heard_old hl]
    exact (h i g x hg h0 he hx').imp (fun k => k.app u) id
  · have : op.g = g := by simpa [Trace.g?, ho] using hg
    subst this
    exact (hu op x hop h0 he hxo).elim
theorem Deaf_quiet (t : Trace) (g : Nat) (hu : ∀ op ∈ u, ∀ m, op.act = .mark m → m ≠ .disable ∧ m ≠ .enable) : Deaf (t ++ u) g = Deaf t g :=
  Deaf_still t g u fun op hop => ⟨fun e => (hu op hop _ e).1 rfl, fun e => (hu op hop _ e).2 rfl⟩
theorem Ok.mem (h : Ok σ w t) (hi : i < σ.n) (hw : σ.works i) (hT : Turns (σ.own i) w w') (hu : ∀ op ∈ u, OpOk (σ.im i) (grow (σ.own i) w w') i op) : Ok (σ.grown i w w') w' (t ++ u) := by
  have hkd : ∀ b, (σ.grown i w w').kd b = if w.heap.size ≤ b ∧ b < w'.heap.size then .own i else σ.kd b := fun b => rfl
  have kdo : ∀ b, b < w.heap.size → (σ.grown i w w').kd b = σ.kd b := fun b hb => by rw [hkd, if_neg (by omega)]
  have fwd : ∀ b, σ.kd b ≠ .free → (σ.grown i w w').kd b = σ.kd b := fun b hb => kdo b (h.lt hb)
  have back : ∀ b K, (σ.grown i w w').kd b = K → K ≠ .own i → σ.kd b = K := fun b K hb hK => by
    rw [hkd] at hb
    split at hb
    · exact absurd hb.symm hK
    · exact hb
  have hkeep : ∀ b, σ.kd b ≠ .free → σ.kd b ≠ .own i → w'.heap[b]? = w.heap[b]? := fun b hb ho => hT.block b (h.lt hb) ho
  have hst : i ≠ 0 → σ.st i ≠ 1 := fun h0 e => by rcases hw with rfl | hw; exact h0 rfl; rw [hw] at e; cases e
  have fresh : ∀ l : Loc, l.isMemory = true → w.heap.size ≤ blkOf l → Fresh t l := fun l hl hb j a ha e => by
    have := h.low j a ha (by rw [e]; exact hl)
    rw [e] at this; omega
  have own' : ∀ g b, (σ.grown i w w').kd b = .own g → (w.heap.size ≤ b) ∨ σ.kd b = .own g := fun g b hb => by
    rw [hkd] at hb
    split at hb
    · exact .inl (by omega)
    · exact .inr hb
  have tr1 : TR (deal (σ.grown i w w')) σ.n t := by
    refine h.tr.deal (fun l hl => .inl ?_) (fun g l hl => ?_) (fun g l hl => ?_) (fun l p (hl : False) => hl.elim) (Nat.le_refl _)
    · cases l with
      | cell a => exact back _ _ hl (by simp)
      | _ => exact hl.elim
    · cases l with
      | cell a =>
        rcases hl with hl | hl | ⟨hl, hp⟩
        · rcases own' _ _ hl with hn | hn
          · exact (fresh (.cell a) rfl hn).perm g
          · exact h.tr.own (.inl hn)
        · exact h.tr.own (.inr (.inl (back _ _ hl (by simp))))
        · exact h.tr.own (.inr (.inr ⟨back _ _ hl (by simp), hp⟩))
      | obj r =>
        rcases hl with hl | hl
        · rcases own' _ _ hl with hn | hn
          · exact (fresh (.obj r) rfl hn).perm g
          · exact h.tr.own (l := .obj r) (.inl hn)
        · exact h.tr.own (l := .obj r) (.inr (back _ _ hl (by simp)))
      | _ => exact hl.elim
    · cases l with
      | cell a =>
        rcases hl with hl | ⟨hl, hp⟩
        · exact h.tr.ro (.inl (back _ _ hl (by simp)))
        · exact h.tr.ro (.inr ⟨back _ _ hl (by simp), hp⟩)
      | _ => exact hl.elim
  have grw : ∀ b, grow (σ.own i) w w' b → (σ.grown i w w').kd b = .own i := fun b hb => by
    have := congrFun (grown_own σ i w w') b
    rw [← this] at hb; exact hb
  have grl : ∀ b, grow (σ.own i) w w' b → b < w'.heap.size := fun b hb => by
    rcases hb with hb | hb
    · exact Nat.lt_of_lt_of_le (h.lt (by rw [show σ.kd b = _ from hb]; simp)) hT.size
    · exact hb.2
  have touch : ∀ op ∈ u, ∀ x, op.act.touch? = some x → (deal (σ.grown i w w')).Own i x.loc ∨ ((deal (σ.grown i w w')).Ro i x.loc ∧ x.write = false) := fun op hop x hx => by
    have hk := (hu op hop).touch x hx
    obtain ⟨loc, wr, kind⟩ := x
    cases loc with
    | cell a =>
      rcases hk with hk | ⟨hw0, hk⟩
      · exact .inl (.inl (grw _ hk))
      · rcases hk with hk | ⟨h0, hk | hk⟩
        · exact .inr ⟨.inl ((fwd _ (by rw [hk]; simp)).trans hk), hw0⟩
        · obtain ⟨p, hp, hf⟩ := h.phase hi h0 (hst h0)
          exact .inr ⟨.inr ⟨(fwd _ (by rw [hk]; simp)).trans hk, .inr ⟨p, hp, hf, hi⟩⟩, hw0⟩
        · exact .inl (.inr (.inl ((fwd _ (by rw [hk]; simp)).trans hk)))
    | obj r => exact .inl (.inl (grw _ hk))
    | mark m => exact absurd ((hu op hop).mem _ hx) (by simp [Loc.isMemory])
    | output => exact hk.elim
    | goroutines => exact hk.elim
  have tr2 := tr1.app (deal_fair _) (g := i) hi (u := u) fun op hop => ⟨(hu op hop).g, fun x hx => .inr (touch op hop x hx)⟩
  refine ⟨h.n1, tr2, fun j a ha hm => ?_, fun b hb => ?_, fun j => ?_, fun a => (h.nrel a).app fun op hop e => ?_, h.st1, ?_, fun p hp => ?_, fun b g hb => ?_, fun hp b => ?_⟩
  · rcases touch_app ha with ⟨_, h1⟩ | ⟨_, op, hop, _, hx⟩
    · exact Nat.lt_of_lt_of_le (h.low j a h1 hm) hT.size
    · have hne : ∀ b, (σ.grown i w w').kd b ≠ .free → b < w'.heap.size := fun b hb => Nat.lt_of_not_le fun hl => hb (by rw [hkd, if_neg (by omega)]; exact h.kdl b (Nat.le_trans hT.size hl))
      have hto := touch op hop a hx
      obtain ⟨loc, wr, kind⟩ := a
      cases loc with
      | cell a =>
        show a.block < _
        rcases hto with (hk | hk | ⟨hk, _⟩) | ⟨hk | ⟨hk, _⟩, _⟩ <;> exact hne _ (by rw [hk]; simp)
      | obj r =>
        show r < _
        rcases hto with (hk | hk) | ⟨hk, _⟩
        · exact hne _ (by rw [hk]; simp)
        · exact hne _ (by rw [hk]; simp)
        · exact hk.elim
      | mark m => cases hm
      | output => cases hm
      | goroutines => cases hm
  · rw [hkd, if_neg (by omega)]; exact h.kdl b (Nat.le_trans hT.size hb)
  · rw [Deaf_quiet t j fun op hop m hm => by rw [(hu op hop).mark m hm]; simp]; exact h.deaf j
  · have := (hu op hop).mark _ e; cases this
  · have hh := hand_app (t := t) (u := u) (K := fun b => σ.kd b = .free ∧ b < w.heap.size) (E := σ.elder) (fun j g x hg h0 he hx => (h.hand j g x hg h0 he hx).imp id fun ⟨k1, k2, a, k3, k4⟩ => ⟨k1, k2, a, k3, k4, by
      have := h.low j x hx (by rw [k3]; rfl)
      rw [k3] at this; exact this⟩) fun op x hop h0 he hx => by
      rw [(hu op hop).g] at h0 he
      exact h.notElder hi h0 (hst h0) he
    exact fun j g x hg h0 he hx => (hh j g x hg h0 he hx).imp id fun ⟨k1, k2, a, k3, k4, k5⟩ => ⟨k1, k2, a, k3, (kdo _ k5).trans k4⟩
  · have q := h.phs p hp
    refine ⟨q.f1, q.fn, q.fm, fun b => ⟨fun hb => (q.kwg b).1 (back _ _ hb (by simp)), fun hb => ?_⟩, (fwd _ (by rw [q.kch]; simp)).trans q.kch, fun b hb => q.kpay b (back _ _ hb (by simp)), fun h0 => (fwd _ (by rw [q.kpaN h0]; simp)).trans (q.kpaN h0), q.s7, fun g a b c => ?_, fun a ha htk g hg => ?_, q.stk, q.tkd, q.qn, q.rdy, ?_, fun b hb => ?_, ?_, q.don, ?_⟩
    · have := (q.kwg b).2 hb
      exact (fwd b (by rw [this]; simp)).trans this
    · obtain ⟨r, hr⟩ := q.rel g a b c
      refine ⟨r, hr.other fun op hop e => ?_⟩
      have e' : i = g := (hu op hop).g.symm.trans e
      have c' : σ.st g ≤ 6 := c
      have := q.f1
      rcases hw with hw | hw
      · omega
      · rw [e'] at hw; omega
    · refine (q.frs a (back _ _ ha (by simp)) htk g hg).app fun op hop b hb e => ?_
      have hto := touch op hop b hb
      rw [e] at hto
      rcases hto with (hk | hk | ⟨_, p', hp', hk⟩) | ⟨hk | ⟨hk, _⟩, _⟩
      · rw [ha] at hk; cases hk
      · rw [ha] at hk; cases hk
      · have : p' = p := Option.some.inj (hp'.symm.trans hp)
        subst this
        rw [htk] at hk; cases hk
      · rw [ha] at hk; cases hk
      · rw [ha] at hk; cases hk
    · obtain ⟨s, tm, hc⟩ := q.chn
      exact ⟨s, tm, (hkeep _ (by rw [q.kch]; simp) (by rw [q.kch]; simp)).trans hc⟩
    · have hb' := back _ _ hb (by simp)
      exact (hkeep b (by rw [hb']; simp) (by rw [hb']; simp)).trans (q.lnt b hb')
    · refine q.row.mono (fun b hb => ?_) (fun b hb => ?_) fun h0 => hkeep _ (by rw [q.kpaN h0]; simp) (by rw [q.kpaN h0]; simp)
      · rcases hb with hb | ⟨g, hb⟩ | hb
        · exact .inl ((fwd b (by rw [hb]; simp)).trans hb)
        · exact .inr (.inl ⟨g, (fwd b (by rw [hb]; simp)).trans hb⟩)
        · exact .inr (.inr ((fwd b (by rw [hb]; simp)).trans hb))
      · rcases hb with hb | ⟨g, hb⟩ | hb
        · exact hkeep b (by rw [hb]; simp) (by rw [hb]; simp)
        · exact hkeep b (by rw [hb]; simp) (by rw [hb]; simp)
        · exact hkeep b (by rw [hb]; simp) (by rw [hb]; simp)
    · obtain ⟨st, sm, h1, h2⟩ := q.mode
      have hk := (q.kwg p.c.Wg).2 rfl
      exact ⟨st, sm, WgAt.of_block h1 (hkeep _ (by rw [hk]; simp) (by rw [hk]; simp)), h2⟩
  · rw [hkd] at hb
    split at hb
    · cases hb; exact hi
    · exact h.kon b g hb
  · have h0 : i = 0 := Classical.byContradiction fun h0 => by
      obtain ⟨p, e, _⟩ := h.phase hi h0 (hst h0)
      rw [show σ.ph = none from hp] at e; cases e
    rw [hkd]
    split
    · exact .inr (.inl (by rw [h0]))
    · exact h.kno hp b
end
structure EnvW (i : Nat) (x y : Gh × World) : Prop where
  st : y.1.st i = x.1.st i
  df : y.1.df i = x.1.df i
  run : x.1.st i ≠ 1 → (∀ p, x.1.ph = some p → ∃ p', y.1.ph = some p' ∧ p'.c = p.c ∧ p.q ≤ p'.q ∧ (∀ k, p'.tk k = some i ↔ p.tk k = some i) ∧ (∀ k, p.tk k = some i → (p'.dn k ↔ p.dn k))) ∧
    (∀ b, y.1.kd b = .own i ↔ x.1.kd b = .own i) ∧ (∀ b, x.1.kd b = .imm → y.1.kd b = .imm) ∧ (∀ b, x.1.kd b = .lent → y.1.kd b = .lent) ∧ (∀ b, x.1.kd b = .fz i → y.1.kd b = .fz i) ∧ Rely (x.1.im i) (x.1.own i) x.2 y.2
  n : x.1.n ≤ y.1.n
structure Env0 (x y : Gh × World) : Prop where
  n : y.1.n = x.1.n
  df : y.1.df 0 = x.1.df 0
  own : ∀ b, y.1.kd b = .own 0 ↔ x.1.kd b = .own 0
  imm : ∀ b, x.1.kd b = .imm → y.1.kd b = .imm
  none : x.1.ph = none → y.1.ph = none
  ph : ∀ p, x.1.ph = some p → ∃ p', y.1.ph = some p' ∧ p'.c = p.c ∧ p'.tag = p.tag
  st : ∀ p, x.1.ph = some p → ∀ i, p.c.f0 ≤ i → i < x.1.n → y.1.st i ≤ x.1.st i
  rely : Rely (x.1.im 0) (x.1.own 0) x.2 y.2
  lent : ∀ b, x.1.kd b = .lent → y.1.kd b = .lent
  dead : ∀ b, b < x.2.heap.size → x.1.kd b = .free → y.2.heap[b]? = x.2.heap[b]? ∧ y.1.kd b = .free
  immb : ∀ b, y.1.kd b = .imm → x.1.kd b = .imm
def EnvP : Nat → Gh × World → Gh × World → Prop
  | 0 => Env0
  | i + 1 => EnvW (i + 1)
theorem Rely.mono {Im Im' O O' : Nat → Prop} {w w₁ : World} (h : Rely Im O w w₁) (hI : ∀ b, Im' b → Im b) (hO : ∀ b, O' b → O b) : Rely Im' O' w w₁ := ⟨h.os, h.tape, h.output, h.size, fun b hb hh => h.block b hb (hh.imp (hI b) (hO b))⟩
theorem EnvP.refl {i : Nat} {σ : Gh} {w w' : World} (h : ∀ Im O, Rely Im O w w') : EnvP i (σ, w) (σ, w') := by
  cases i with
  | zero => exact ⟨rfl, rfl, fun _ => .rfl, fun _ h => h, fun h => h, fun p hp => ⟨p, hp, rfl, rfl⟩, fun _ _ _ _ _ => Nat.le_refl _, h _ _, fun _ h => h, fun b hb hf => ⟨(h (fun _ => True) (fun _ => True)).block b hb (.inl trivial), hf⟩, fun _ h => h⟩
  | succ i => exact ⟨rfl, rfl, fun _ => ⟨fun p hp => ⟨p, hp, rfl, Nat.le_refl _, fun _ => .rfl, fun _ _ => .rfl⟩, fun _ => .rfl, fun _ h => h, fun _ h => h, fun _ h => h, h _ _⟩, Nat.le_refl _⟩
theorem EnvP.trans {i : Nat} {a b c : Gh × World} (h : EnvP i a b) (k : EnvP i b c) : EnvP i a c := by
  cases i with
  | zero =>
    refine ⟨k.n.trans h.n, k.df.trans h.df, fun b => (k.own b).trans (h.own b), fun b hb => k.imm b (h.imm b hb), fun e => k.none (h.none e), fun p hp => ?_, fun p hp i hi hn => ?_, h.rely.trans (k.rely.mono (fun b hb => ?_) fun b hb => (h.own b).2 hb), fun b hb => k.lent b (h.lent b hb), fun b hb hf => ⟨(k.dead b (Nat.lt_of_lt_of_le hb h.rely.size) (h.dead b hb hf).2).1.trans (h.dead b hb hf).1, (k.dead b (Nat.lt_of_lt_of_le hb h.rely.size) (h.dead b hb hf).2).2⟩, fun b hb => h.immb b (k.immb b hb)⟩
    · obtain ⟨p1, e1, c1, t1⟩ := h.ph p hp
      obtain ⟨p2, e2, c2, t2⟩ := k.ph p1 e1
      exact ⟨p2, e2, c2.trans c1, t2.trans t1⟩
    · obtain ⟨p1, e1, c1, t1⟩ := h.ph p hp
      exact Nat.le_trans (k.st p1 e1 i (by rw [c1]; exact hi) (by rw [h.n]; exact hn)) (h.st p hp i hi hn)
    · rcases hb with hb | hb
      · exact .inl (h.imm b hb)
      · exact absurd rfl hb.1
  | succ i =>
    refine ⟨k.st.trans h.st, k.df.trans h.df, fun hs => ?_, Nat.le_trans h.n k.n⟩
    obtain ⟨a1, a2, a3, a4, a6, a5⟩ := h.run hs
    obtain ⟨b1, b2, b3, b4, b6, b5⟩ := k.run (by rw [h.st]; exact hs)
    refine ⟨fun p hp => ?_, fun b => (b2 b).trans (a2 b), fun b hb => b3 b (a3 b hb), fun b hb => b4 b (a4 b hb), fun b hb => b6 b (a6 b hb), a5.trans (b5.mono (fun b hb => ?_) fun b hb => (a2 b).2 hb)⟩
    · obtain ⟨p1, e1, c1, q1, t1, d1⟩ := a1 p hp
      obtain ⟨p2, e2, c2, q2, t2, d2⟩ := b1 p1 e1
      exact ⟨p2, e2, c2.trans c1, Nat.le_trans q1 q2, fun k => (t2 k).trans (t1 k), fun k hk => (d2 k ((t1 k).2 hk)).trans (d1 k hk)⟩
    · rcases hb with hb | ⟨h0, hb | hb⟩
      · exact .inl (a3 b hb)
      · exact .inr ⟨h0, .inl (a4 b hb)⟩
      · exact .inr ⟨h0, .inr (a6 b hb)⟩
section
variable {σ : Gh} {w w' : World} {t u : Trace} {i j : Nat}
theorem EnvP.mem (h : Ok σ w t) (hj : j ≠ i) (hT : Turns (σ.own i) w w') : EnvP j (σ, w) (σ.grown i w w', w') := by
  have hkd : ∀ b, (σ.grown i w w').kd b = if w.heap.size ≤ b ∧ b < w'.heap.size then .own i else σ.kd b := fun b => rfl
  have fwd : ∀ b, σ.kd b ≠ .free → (σ.grown i w w').kd b = σ.kd b := fun b hb => by rw [hkd, if_neg (by have := h.lt hb; omega)]
  have own : ∀ b, (σ.grown i w w').kd b = .own j ↔ σ.kd b = .own j := fun b => ⟨fun hb => by
    rw [hkd] at hb
    split at hb
    · cases hb; exact absurd rfl hj
    · exact hb, fun hb => (fwd b (by rw [hb]; simp)).trans hb⟩
  have rely : ∀ Im : Nat → Prop, (∀ b, Im b → σ.kd b ≠ .own i) → Rely Im (σ.own j) w w' := fun Im hI => ⟨hT.os, hT.tape, hT.output, hT.size, fun b hb hh => hT.block b hb fun ho => by
    rcases hh with hh | hh
    · exact hI b hh ho
    · have hh : σ.kd b = .own j := hh
      rw [show σ.kd b = .own i from ho] at hh; cases hh; exact hj rfl⟩
  have him : ∀ b, σ.im j b → σ.kd b ≠ .own i := fun b hb e => by rcases hb with hb | ⟨_, hb | hb⟩ <;> rw [e] at hb <;> cases hb
  cases j with
  | zero => exact ⟨rfl, rfl, own, fun b hb => (fwd b (by rw [hb]; simp)).trans hb, fun h => h, fun p hp => ⟨p, hp, rfl, rfl⟩, fun _ _ _ _ _ => Nat.le_refl _, rely _ him, fun b hb => (fwd b (by rw [hb]; simp)).trans hb, fun b hb hf => ⟨hT.block b hb (by show ¬ σ.kd b = _; rw [show σ.kd b = .free from hf]; simp), by have hb' : b < w.heap.size := hb; show (σ.grown i w w').kd b = _; rw [hkd, if_neg (by omega)]; exact hf⟩, fun b hb => by
    have hb : (σ.grown i w w').kd b = .imm := hb
    rw [hkd] at hb
    split at hb
    · cases hb
    · exact hb⟩
  | succ j => exact ⟨rfl, rfl, fun _ => ⟨fun p hp => ⟨p, hp, rfl, Nat.le_refl _, fun _ => .rfl, fun _ _ => .rfl⟩, own, fun b hb => (fwd b (by rw [hb]; simp)).trans hb, fun b hb => (fwd b (by rw [hb]; simp)).trans hb, fun b hb => (fwd b (by rw [hb]; simp)).trans hb, rely _ him⟩, Nat.le_refl _⟩
end
structure But (X : Nat) (w w' : World) : Prop where
  os : w'.os = w.os
  tape : w'.tape = w.tape
  output : w'.output = w.output
  size : w'.heap.size = w.heap.size
  block : ∀ b, b ≠ X → w'.heap[b]? = w.heap[b]?
theorem But.refl (X : Nat) (w : World) : But X w w := ⟨rfl, rfl, rfl, rfl, fun _ _ => rfl⟩
theorem But.rely {X : Nat} {w w' : World} (h : But X w w') {Im O : Nat → Prop} (hX : ∀ b, Im b ∨ O b → b ≠ X) : Rely Im O w w' := ⟨h.os, h.tape, h.output, Nat.le_of_eq h.size.symm, fun b _ hh => h.block b (hX b hh)⟩
section
variable {σ : Gh} {w w' : World} {t u : Trace} {i j : Nat} {p : Ph}
def Gh.sync (σ : Gh) (p : Ph) (s d : Nat → Nat) (tag : Tg) : Gh := { σ with st := s, df := d, ph := some { p with tag := tag } }
theorem dOwn_sync {s d : Nat → Nat} {tag : Tg} (hp : σ.ph = some p) {g : Nat} {l : Loc} (h : dOwn (σ.sync p s d tag) g l) : dOwn σ g l := by
  cases l with
  | cell a =>
    rcases h with h | h | ⟨h, p', e, hk⟩
    · exact .inl h
    · exact .inr (.inl h)
    · cases e; exact .inr (.inr ⟨h, p, hp, hk⟩)
  | obj r => exact h
  | _ => exact h.elim
theorem dRo_sync {s d : Nat → Nat} {tag : Tg} (hp : σ.ph = some p) {g : Nat} {l : Loc} (h : dRo (σ.sync p s d tag) g l) : dRo σ g l := by
  cases l with
  | cell a =>
    rcases h with h | ⟨h, h0 | ⟨p', e, hk⟩⟩
    · exact .inl h
    · exact .inr ⟨h, .inl h0⟩
    · cases e; exact .inr ⟨h, .inr ⟨p, hp, hk⟩⟩
  | _ => exact h.elim
theorem Ok.sync (h : Ok σ w t) (hi : i < σ.n) (hp : σ.ph = some p) {s d : Nat → Nat} {tag : Tg} (hw : But p.c.Wg w w')
    (hu : ∀ op ∈ u, op.g = i ∧ (∀ x, op.act.touch? = some x → x.kind ≠ .plain ∧ (x.kind = .said → i = 0) ∧ ∃ a, x.loc = .cell a ∧ a.block = p.c.Wg) ∧ ∀ a, op.act ≠ .mark (.release a))
    (hs : ∀ g, g ≠ i → s g = σ.st g) (hd : ∀ j, Deaf (t ++ u) j = d j) (h7 : i ≠ 0 → p.c.f0 ≤ i ∧ s i ≤ 7)
    (hrel : i ≠ 0 → s i ≤ 6 → ∃ r, RelB p.c.Wg (t ++ u) i r) (hrdy : i ≠ 0 → s i ≤ 6 → p.q = p.c.N ∧ ∀ k, p.tk k = some i → p.dn k)
    (hm : ∃ st sm, WgAt 52 p.c.Wg w' st sm ∧ Mode s p.c.f0 (σ.n - p.c.f0) tag st sm) : Ok (σ.sync p s d tag) w' (t ++ u) := by
  have q := h.phs p hp
  have hne : ∀ b, σ.kd b ≠ .wg → w'.heap[b]? = w.heap[b]? := fun b hb => hw.block b fun e => hb ((q.kwg b).2 e)
  have touch : ∀ op ∈ u, ∀ x, op.act.touch? = some x → ∃ a, x.loc = .cell a ∧ σ.kd a.block = .wg := fun op hop x hx => let ⟨_, _, a, e1, e2⟩ := (hu op hop).2.1 x hx; ⟨a, e1, (q.kwg _).2 e2⟩
  have tr1 : TR (deal (σ.sync p s d tag)) σ.n t := h.tr.deal (fun l hl => .inl (by cases l <;> exact hl)) (fun g l hl => h.tr.own (dOwn_sync hp hl)) (fun g l hl => h.tr.ro (dRo_sync hp hl)) (fun l p (hl : False) => hl.elim) (Nat.le_refl _)
  have tr2 := tr1.app (deal_fair _) (g := i) hi (u := u) fun op hop => ⟨(hu op hop).1, fun x hx => .inl (by
    obtain ⟨k1, k2, a, e1, e2⟩ := (hu op hop).2.1 x hx
    refine ⟨?_, k1, k2⟩
    rw [e1]
    exact (q.kwg _).2 e2)⟩
  refine ⟨h.n1, tr2, fun j a ha hmem => ?_, fun b hb => h.kdl b (by rw [← hw.size]; exact hb), hd, fun a => (h.nrel a).app fun op hop => (hu op hop).2.2 a, fun g h1 hg he => ?_, ?_, fun p' hp' => ?_, h.kon, fun e => by cases e⟩
  · rw [hw.size]
    rcases touch_app ha with ⟨_, h1⟩ | ⟨_, op, hop, _, hx⟩
    · exact h.low j a h1 hmem
    · obtain ⟨ad, e1, e2⟩ := touch op hop a hx
      rw [e1]
      show ad.block < _
      exact h.lt (by rw [e2]; simp)
  · have he' : g < p.c.f0 := he { p with tag := tag } rfl
    have hgi : g ≠ i := fun e => by subst e; have := (h7 (by omega)).1; omega
    exact (hs g hgi).trans (h.st1 g h1 hg fun p' e => by rw [hp] at e; cases e; exact he')
  · have H := hand_app (t := t) (u := u) (K := fun b => σ.kd b = .free) (E := fun g => g < p.c.f0) (fun j g x hg h0 he hx => h.hand j g x hg h0 (fun p' e => (by rw [hp] at e; cases e; exact he)) hx) (fun op x hop h0 he hx => ?_)
    · exact fun j g x hg h0 he hx => H j g x hg h0 (he { p with tag := tag } rfl) hx
    rw [(hu op hop).1] at h0 he
    have := (h7 h0).1
    omega
  · cases hp'
    refine ⟨q.f1, q.fn, q.fm, q.kwg, q.kch, q.kpay, q.kpaN, fun g a b => ?_, fun g a b c => ?_, fun a ha htk g hg => ?_, q.stk, q.tkd, q.qn, fun g a b c => ?_, ?_, fun b hb => ?_, ?_, q.don, hm⟩
    · by_cases e : g = i
      · subst e; exact (h7 (by have := q.f1; have : p.c.f0 ≤ g := a; omega)).2
      · show s g ≤ 7
        rw [hs g e]; exact q.s7 g a b
    · have a' : p.c.f0 ≤ g := a
      have := q.f1
      by_cases e : g = i
      · subst e; exact hrel (by omega) c
      · have c' : s g ≤ 6 := c
        rw [hs g e] at c'
        obtain ⟨r, hr⟩ := q.rel g a b c'
        exact ⟨r, hr.other fun op hop e' => e (e'.symm.trans (hu op hop).1)⟩
    · refine (q.frs a ha htk g hg).app fun op hop b hb e => ?_
      obtain ⟨ad, e1, e2⟩ := touch op hop b hb
      rw [e] at e1; cases e1
      rw [show σ.kd a.block = .pay from ha] at e2; cases e2
    · have a' : p.c.f0 ≤ g := a
      have := q.f1
      by_cases e : g = i
      · subst e; exact hrdy (by omega) c
      · have c' : s g ≤ 6 := c
        rw [hs g e] at c'
        exact q.rdy g a b c'
    · obtain ⟨s, tm, hc⟩ := q.chn
      exact ⟨s, tm, (hne _ (by rw [q.kch]; simp)).trans hc⟩
    · exact (hne b (by rw [show σ.kd b = .lent from hb]; simp)).trans (q.lnt b hb)
    · refine q.row.mono (fun b hb => hb) (fun b hb => hne b ?_) fun h0 => hne _ (by rw [q.kpaN h0]; simp)
      rcases hb with hb | ⟨g, hb⟩ | hb <;> rw [show σ.kd b = _ from hb] <;> simp
theorem EnvP.sync (h : Ok σ w t) (hj : j ≠ i) (hp : σ.ph = some p) {s d : Nat → Nat} {tag : Tg} (hw : But p.c.Wg w w') (hs : ∀ g, g ≠ i → s g = σ.st g) (hd : ∀ g, g ≠ i → d g = σ.df g) (hi : i ≠ 0 → tag = p.tag ∧ s i ≤ σ.st i) : EnvP j (σ, w) (σ.sync p s d tag, w') := by
  have q := h.phs p hp
  have hX : ∀ g b, σ.im g b ∨ σ.own g b → b ≠ p.c.Wg := fun g b hb e => by
    have hk := (q.kwg b).2 e
    rcases hb with (hb | ⟨_, hb | hb⟩) | hb
    · rw [hk] at hb; cases hb
    · rw [hk] at hb; cases hb
    · rw [hk] at hb; cases hb
    · rw [show σ.kd b = .own g from hb] at hk; cases hk
  cases j with
  | zero =>
    have hi' := hi (Ne.symm hj)
    refine ⟨rfl, hd 0 hj, fun _ => .rfl, fun _ h => h, fun e => (by rw [hp] at e; cases e), fun p' e => ?_, fun p' e g _ _ => ?_, hw.rely (hX 0), fun _ h => h, fun b _ hf => ⟨hw.block b fun e => (by have := (q.kwg b).2 e; rw [show σ.kd b = .free from hf] at this; cases this), hf⟩, fun _ h => h⟩
    · rw [hp] at e; cases e
      exact ⟨_, rfl, rfl, hi'.1⟩
    · show s g ≤ σ.st g
      by_cases hg : g = i
      · subst hg; exact hi'.2
      · rw [hs g hg]; exact Nat.le_refl _
  | succ j =>
    refine ⟨hs _ hj, hd _ hj, fun _ => ⟨fun p' e => ?_, fun _ => .rfl, fun _ h => h, fun _ h => h, fun _ h => h, hw.rely (hX _)⟩, Nat.le_refl _⟩
    rw [hp] at e; cases e
    exact ⟨_, rfl, rfl, Nat.le_refl _, fun _ => .rfl, fun _ _ => .rfl⟩
end
end Go.Proofs.Ytkfmphlnpmemdaa.Sx
