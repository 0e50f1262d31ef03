import Derived.Test.YtkfmphlnpmemdaaQSxO
import Derived.Test.YtkfmphlnpmemdaaQCoA
import Derived.Conc.EventLaws
import Derived.Conc.EventLaws2
import Derived.Conc.SmallLaws
import Derived.Conc.AppendEvents3
import Derived.Conc.AppendWalk
set_option linter.unusedVariables false
set_option linter.unusedSimpArgs false
namespace Go.Proofs.Ytkfmphlnpmemdaa.Sx
open Go Go.Conc
structure Cy where
  P : Program
  nt : Nat
  main : Mn
  f : FuncId
  w0 : World
  may : Nat → Prop
  I0 : Nat → Prop
  O0 : Nat → Prop
  Im : Nat → Prop
def Tb (P : Program) (I : Nat → Prop) (s : St) (w : World) : Prop := Tab P I w ∧ ∀ b, I b → b < w.heap.size ∧ ¬ fps s.heap b
def Cx.here (P : Program) (nt : Nat) (I : Nat → Prop) (s : St) (w : World) (tb : Tb P I s w) : Cx := ⟨P, nt, w, fps s.heap, I, [], tb⟩
structure SatY (Y : Cy) (I : Nat → Prop) (s : St) (a : Act) (w : World) (O : Nat → Prop) : Prop where
  tab : Tb Y.P I s w
  core : Sat (Cx.here Y.P Y.nt I s w tab) I s a w
  own : ∀ b, fps s.heap b → O b ∧ (Y.may b ∨ ¬ Y.O0 b)
  imm : ∀ b, I b → Y.I0 b ∨ (O b ∧ ¬ Y.O0 b)
  i0 : ∀ b, Y.I0 b → I b ∧ (Y.Im b ∨ Y.O0 b)
  sub : ∀ b, Y.O0 b → O b
  olt : ∀ b, O b → b < w.heap.size
  keep : ∀ b, Y.O0 b → ¬ Y.may b → w.heap[b]? = Y.w0.heap[b]?
  imk : ∀ b, Y.I0 b → w.heap[b]? = Y.w0.heap[b]?
  os : w.os = Y.w0.os
  tape : w.tape = Y.w0.tape
  output : w.output = Y.w0.output
  size : Y.w0.heap.size ≤ w.heap.size
section
variable {Y : Cy} {I : Nat → Prop} {s : St} {a : Act} {w : World} {O : Nat → Prop}
theorem SatY.imO (h : SatY Y I s a w O) {b : Nat} (hb : I b) : Y.Im b ∨ O b := by
  rcases h.imm b hb with h1 | h1
  · exact (h.i0 b h1).2.imp id (h.sub b)
  · exact .inr h1.1
theorem Sat.anew {X : Cx} (h : Sat X I s a w) (hd : X.ds = []) (tb : Tb X.P I s w) : Sat (Cx.here X.P X.nt I s w tb) I s a w :=
  ⟨h.tsz, h.dfr.trans hd, h.env, h.heap, h.sep, fun b hb => ⟨(h.own b hb).1, .inr hb, (h.own b hb).2.2⟩, fun b hb => ⟨(h.imm b hb).1, .inl hb⟩, fun b hb => hb, Same.refl _ _⟩
theorem SatY.step (h : SatY Y I s a w O) {I' : Nat → Prop} {s' : St} {a' : Act} {w' : World} (hs : Sat (Cx.here Y.P Y.nt I s w h.tab) I' s' a' w') : SatY Y I' s' a' w' (grow O w w') := by
  have hsame : Same w w' (fps s.heap) := hs.same
  have hI' : ∀ b, I b → I' b := hs.i0
  have hIe : ∀ b, I b → w'.heap[b]? = w.heap[b]? := fun b hb => hsame.block b (h.tab.2 b hb).1 (h.tab.2 b hb).2
  have tb : Tb Y.P I' s' w' := ⟨h.tab.1.mono hI' hIe, fun b hb => ⟨(hs.imm b hb).1, fun hf => (hs.own b hf).1 hb⟩⟩
  refine ⟨tb, hs.anew rfl tb, fun b hb => ?_, fun b hb => ?_, fun b hb => ⟨hI' b (h.i0 b hb).1, (h.i0 b hb).2⟩, fun b hb => .inl (h.sub b hb), fun b hb => ?_, fun b hb hm => ?_, fun b hb => (hIe b (h.i0 b hb).1).trans (h.imk b hb), hsame.os.trans h.os, hsame.tape.trans h.tape, hsame.output.trans h.output, Nat.le_trans h.size hsame.size⟩
  · obtain ⟨_, h2, h3⟩ := hs.own b hb
    rcases (h2 : w.heap.size ≤ b ∨ fps s.heap b) with h2 | h2
    · have h4 : w.heap.size ≤ b := h2
      exact ⟨.inr ⟨h4, h3⟩, .inr fun ho => absurd (h.olt b (h.sub b ho)) (by omega)⟩
    · exact ⟨.inl (h.own b h2).1, (h.own b h2).2⟩
  · obtain ⟨h1, h2⟩ := hs.imm b hb
    rcases (h2 : I b ∨ w.heap.size ≤ b) with h2 | h2
    · exact (h.imm b h2).imp id fun ⟨x, y⟩ => ⟨.inl x, y⟩
    · have h4 : w.heap.size ≤ b := h2
      exact .inr ⟨.inr ⟨h4, h1⟩, fun ho => absurd (h.olt b (h.sub b ho)) (by omega)⟩
  · rcases hb with hb | hb
    · exact Nat.lt_of_lt_of_le (h.olt b hb) hsame.size
    · exact hb.2
  · refine (hsame.block b (h.olt b (h.sub b hb)) fun hf => ?_).trans (h.keep b hb hm)
    exact (h.own b hf).2.elim hm fun hn => hn hb
theorem SatY.guar (h : SatY Y I s a w O) {w' : World} {es : Array Event} (hsame : Same w w' (fps s.heap)) (he : ∀ e ∈ es, EvOk Y.Im (grow O w w') e) : Guar Y.Im O w w' es :=
  ⟨hsame.os, hsame.tape, hsame.output, hsame.size, fun b hb hn => hsame.block b hb fun hf => hn (h.own b hf).1, he⟩
theorem SatY.rely (h : SatY Y I s a w O) {w₁ : World} (hr : Rely Y.Im O w w₁) : SatY Y I s a w₁ O := by
  have hI : ∀ b, I b → w₁.heap[b]? = w.heap[b]? := fun b hb => hr.block b (h.tab.2 b hb).1 (h.imO hb)
  have hF : ∀ b, fps s.heap b → w₁.heap[b]? = w.heap[b]? := fun b hb => hr.block b (h.core.own b hb).2.2 (.inr (h.own b hb).1)
  have tb : Tb Y.P I s w₁ := ⟨h.tab.1.mono (fun _ h => h) hI, fun b hb => ⟨Nat.lt_of_lt_of_le (h.tab.2 b hb).1 hr.size, (h.tab.2 b hb).2⟩⟩
  refine ⟨tb, ⟨h.core.tsz, h.core.dfr, fun k d hk => (h.core.env k d hk).mono (fun _ h => h) hI, fun x hx => (h.core.heap x hx).mono (fun _ h => h) hI fun b hb => hF b ⟨x, hx, hb⟩, h.core.sep, fun b hb => ⟨(h.core.own b hb).1, .inr hb, Nat.lt_of_lt_of_le (h.core.own b hb).2.2 hr.size⟩,
    fun b hb => ⟨Nat.lt_of_lt_of_le (h.core.imm b hb).1 hr.size, .inl hb⟩, fun _ hb => hb, Same.refl _ _⟩, h.own, h.imm, h.i0, h.sub, fun b hb => Nat.lt_of_lt_of_le (h.olt b hb) hr.size, fun b hb hm => ?_, fun b hb => ?_, hr.os.trans h.os, hr.tape.trans h.tape, hr.output.trans h.output, Nat.le_trans h.size hr.size⟩
  · exact (hr.block b (h.olt b (h.sub b hb)) (.inr (h.sub b hb))).trans (h.keep b hb hm)
  · exact (hI b (h.i0 b hb).1).trans (h.imk b hb)
theorem SatY.drew (h : SatY Y I s a w O) : SatY Y I s a w.drew O := h.rely (Rely.drew _ _ _ _)
theorem SatY.le (h : SatY Y I s a w O) {s' : St} (hl : Le s s') : SatY Y I s' a w O := by
  have hs : Sat (Cx.here Y.P Y.nt I s w h.tab) I s' a w := hl _ _ _ _ h.core
  have := h.step hs
  rwa [grow_self] at this
end
namespace Y
inductive It where
  | code (c : Code)
  | blk (id : Nat)
  | again (J : St → Prop)
def popIt (id : Nat) : List It → Option (List It)
  | [] => none
  | .blk i :: k => cond (Nat.beq i id) (some k) (popIt id k)
  | .code _ :: k => popIt id k
  | .again _ :: k => popIt id k
def bodyPost (Y : Cy) (fn : Func) (R : Value → World → (Nat → Prop) → Prop) : PostO
  | .normal, a, w, O | .ret, a, w, O => a.defers = [] ∧ ∀ w₁, Rely Y.Im O w w₁ → ∃ v, (results fn a.tmps).run Y.P w₁ = .ok v w₁ ∧ Guar Y.Im O w₁ w₁ ((results fn a.tmps).events Y.P w₁ #[]) ∧ R v w₁ O
  | _, _, _, _ => False
def Kont (Y : Cy) (fn : Func) (R : Value → World → (Nat → Prop) → Prop) : List It → PostO
  | [], e, a, w, O => bodyPost Y fn R e a w O
  | .code c :: k, e, a, w, O => (match e with
    | .normal => wpO Y.P Y.main Y.Im Y.f c (Kont Y fn R k) a w O
    | e => Kont Y fn R k e a w O)
  | .blk id :: k, e, a, w, O => (match e with
    | .exit id' => if id' = id then Kont Y fn R k .normal a w O else Kont Y fn R k (.exit id') a w O
    | e => Kont Y fn R k e a w O)
  | .again J :: k, e, a, w, O => (match e with
    | .normal => ∃ s I, J s ∧ SatY Y I s a w O
    | e => Kont Y fn R k e a w O)
structure GoC (Y : Cy) (fn : Func) (R : Value → World → (Nat → Prop) → Prop) (c : Code) (k : List It) (s : St) : Prop where
  run : ∀ I a w O, SatY Y I s a w O → wpO Y.P Y.main Y.Im Y.f c (Kont Y fn R k) a w O
structure GoO (Y : Cy) (fn : Func) (R : Value → World → (Nat → Prop) → Prop) (all : Array Oper) (os : List Oper) (k : List It) (s : St) : Prop where
  run : ∀ I a w O, SatY Y I s a w O → listO Y.P Y.main Y.Im all (Kont Y fn R k) os a w O
structure GoK (Y : Cy) (fn : Func) (R : Value → World → (Nat → Prop) → Prop) (k : List It) (s : St) : Prop where
  run : ∀ I a w O, SatY Y I s a w O → Kont Y fn R k .normal a w O
section
variable {Y : Cy} {fn : Func} {R : Value → World → (Nat → Prop) → Prop} {k k' : List It} {s s' : St}
theorem Kont_exit {id : Nat} {a : Act} {w : World} {O : Nat → Prop} : ∀ {k : List It}, popIt id k = some k' → Kont Y fn R k' .normal a w O → Kont Y fn R k (.exit id) a w O := by
  intro k
  induction k with
  | nil => intro h; cases h
  | cons x k ih =>
    intro h hk
    cases x with
    | code c => exact ih h hk
    | again J => exact ih h hk
    | blk i =>
      show (if id = i then Kont Y fn R k .normal a w O else Kont Y fn R k (.exit id) a w O)
      by_cases hi : i = id
      · subst hi
        have e : Nat.beq i i = true := by simp
        simp only [popIt, e, cond_true, Option.some.injEq] at h
        subst h
        rw [if_pos rfl]; exact hk
      · have e : Nat.beq i id = false := by rw [Bool.eq_false_iff]; exact fun e => hi (Nat.eq_of_beq_eq_true e)
        simp only [popIt, e, cond_false] at h
        rw [if_neg (fun e => hi e.symm)]
        exact ih h hk
theorem Kont_ret {a : Act} {w : World} {O : Nat → Prop} : ∀ {k : List It}, bodyPost Y fn R .ret a w O → Kont Y fn R k .ret a w O := by
  intro k h
  induction k with
  | nil => exact h
  | cons x k ih => cases x <;> exact ih
theorem GoC.seq {x y : Code} (h : GoC Y fn R x (.code y :: k) s) : GoC Y fn R (.seq x y) k s :=
  ⟨fun I a w O hs => wpO_seq (wpO_mono (h.run I a w O hs) fun e a w O hq => by cases e <;> exact hq)⟩
theorem GoC.block {id : Nat} {c : Code} (h : GoC Y fn R c (.blk id :: k) s) : GoC Y fn R (.block id c) k s :=
  ⟨fun I a w O hs => wpO_block (wpO_mono (h.run I a w O hs) fun e a w O hq => by cases e <;> exact hq)⟩
theorem GoC.skip (h : GoK Y fn R k s) : GoC Y fn R .skip k s := ⟨fun I a w O hs => wpO_skip (h.run I a w O hs)⟩
theorem GoC.exit {id : Nat} (hp : popIt id k = some k') (h : GoK Y fn R k' s) : GoC Y fn R (.exit id) k s :=
  ⟨fun I a w O hs => wpO_exit (Kont_exit hp (h.run I a w O hs))⟩
theorem GoK.code {c : Code} (h : GoC Y fn R c k s) : GoK Y fn R (.code c :: k) s := ⟨fun I a w O hs => h.run I a w O hs⟩
theorem GoK.blk {id : Nat} (h : GoK Y fn R k s) : GoK Y fn R (.blk id :: k) s := ⟨fun I a w O hs => h.run I a w O hs⟩
theorem GoK.again {J : St → Prop} (h : J s) : GoK Y fn R (.again J :: k) s := ⟨fun I a w O hs => ⟨s, I, h, hs⟩⟩
theorem GoC.cond {c : Operand} {x y : Code} {t : Bool} (hc : s.ev c = some (.v (.bool t))) (h1 : t = true → GoC Y fn R x k s) (h2 : t = false → GoC Y fn R y k s) : GoC Y fn R (.cond c x y) k s :=
  ⟨fun I a w O hs => wpO_cond (t := t) (hs.core.ev hc) (by
    cases t with
    | true => exact (h1 rfl).run I a w O hs
    | false => exact (h2 rfl).run I a w O hs)⟩
theorem GoC.condT {c : Operand} {x y : Code} (hc : s.ev c = some (.v (.bool true))) (h : GoC Y fn R x k s) : GoC Y fn R (.cond c x y) k s := GoC.cond hc (fun _ => h) (fun e => by cases e)
theorem GoC.condF {c : Operand} {x y : Code} (hc : s.ev c = some (.v (.bool false))) (h : GoC Y fn R y k s) : GoC Y fn R (.cond c x y) k s := GoC.cond hc (fun e => by cases e) (fun _ => h)
theorem GoC.condD {c : Operand} {x y : Code} {p : Prop} [Decidable p] (hc : s.ev c = some (.v (.bool (decide p)))) (h1 : p → GoC Y fn R x k s) (h2 : ¬ p → GoC Y fn R y k s) : GoC Y fn R (.cond c x y) k s :=
  GoC.cond hc (fun h => h1 (of_decide_eq_true h)) (fun h => h2 (of_decide_eq_false h))
theorem GoC.region {id : Nat} {ops : List Oper} (h : GoO Y fn R ops.toArray ops k s) : GoC Y fn R (.region id ops.toArray false) k s :=
  ⟨fun I a w O hs => wpO_region_lit (h.run I a w O hs)⟩
theorem GoO.nil {all : Array Oper} (h : GoK Y fn R k s) : GoO Y fn R all [] k s := ⟨fun I a w O hs => h.run I a w O hs⟩
theorem GoC.le {c : Code} (hl : Le s s') (h : GoC Y fn R c k s') : GoC Y fn R c k s := ⟨fun I a w O hs => h.run I a w O (hs.le hl)⟩
theorem GoK.le (hl : Le s s') (h : GoK Y fn R k s') : GoK Y fn R k s := ⟨fun I a w O hs => h.run I a w O (hs.le hl)⟩
theorem GoO.le {all : Array Oper} {os : List Oper} (hl : Le s s') (h : GoO Y fn R all os k s') : GoO Y fn R all os k s := ⟨fun I a w O hs => h.run I a w O (hs.le hl)⟩
theorem GoC.loop {c : Code} (J : Nat → St → Prop) (m : Nat) (h0 : J m s)
    (hr : ∀ n s, J n s → GoC Y fn R c (.again (fun s' => ∃ n', n' < n ∧ J n' s') :: k) s) : GoC Y fn R (.loop c) k s :=
  ⟨fun I a w O hs => wpO_loop (fun n a w O => ∃ s I, J n s ∧ SatY Y I s a w O) ⟨s, I, h0, hs⟩ fun n a w O ⟨s, I, hj, hs⟩ =>
    wpO_mono ((hr n s hj).run I a w O hs) fun e a w O hq => by
      cases e with
      | normal => obtain ⟨s', I', ⟨n', hn, hj'⟩, hs'⟩ := hq; exact ⟨n', hn, s', I', hj', hs'⟩
      | exit id => exact hq
      | ret => exact hq
      | goto l => exact hq
      | panic ch => exact hq
      | outgrown => exact hq⟩
end
end Y
def PureE (X : Cx) (H0 : List HL) (o : Oper) (s s' : St) : Prop :=
  PureStep X H0 o s s' ∧ ∀ I a w, Sat X I s a w → ∀ w' : World, (∀ b, (I b ∨ fps H0 b) → w'.heap[b]? = w.heap[b]?) → ∀ e ∈ (execOp a.eval o).events X.P w' #[], ∃ ad : Addr, e.loc = .cell ad ∧ e.write = false ∧ (I ad.block ∨ fps H0 ad.block)
theorem PureE.quiet {X : Cx} {H0 : List HL} {o : Oper} {s s' : St} (h : PureStep X H0 o s s') (he : ∀ I a w, Sat X I s a w → ∀ w', (execOp a.eval o).events X.P w' #[] = #[]) : PureE X H0 o s s' :=
  ⟨h, fun I a w hs w' _ e hm => by rw [he I a w hs w'] at hm; exact absurd hm (Array.not_mem_empty _)⟩
namespace Y
section
variable {X : Cx} {s s' : St} {H0 : List HL} {d : Tmp} {ty : TypeId} {pos : String} {aft : Array Edge} {x y z : Operand} {xt yt : TypeId} {q : D} {m n : Int} {kd k2 : IntKind}
theorem ps_move (hx : s.ev x = some q) (hd : Nat.blt d X.nt = true) : PureE X H0 ⟨some d, .move x, ty, pos, aft, none⟩ s (s.put d q) :=
  .quiet (Sx.ps_move hx hd) fun I a w hs w' => rfl
theorem ps_assign (hx : s.ev x = some q) (hd : Nat.blt d X.nt = true) : PureE X H0 ⟨some d, .assign x, ty, pos, aft, none⟩ s (s.put d q) :=
  .quiet (Sx.ps_assign hx hd) fun I a w hs w' => rfl
theorem ps_pickT (hx : s.ev x = some (.v (.bool true))) (hy : s.ev y = some q) (hd : Nat.blt d X.nt = true) : PureE X H0 ⟨some d, .pick x y z, ty, pos, aft, none⟩ s (s.put d q) :=
  .quiet (Sx.ps_pickT hx hy hd) fun I a w hs w' => by
    have e : a.eval x = .bool true := hs.ev hx
    simp [execOp, e, asBool]
theorem ps_pickF (hx : s.ev x = some (.v (.bool false))) (hz : s.ev z = some q) (hd : Nat.blt d X.nt = true) : PureE X H0 ⟨some d, .pick x y z, ty, pos, aft, none⟩ s (s.put d q) :=
  .quiet (Sx.ps_pickF hx hz hd) fun I a w hs w' => by
    have e : a.eval x = .bool false := hs.ev hx
    simp [execOp, e, asBool]
theorem ev_bin {op : BinOp} {I : Nat → Prop} {a : Act} {w w' : World} (hs : Sat X I s a w) (hx : s.ev x = some (.v (.int kd m))) (hy : s.ev y = some (.v (.int k2 n)))
    (hr : (binOp op xt (.int kd m) (.int k2 n)).events X.P w' #[] = #[]) : (execOp a.eval ⟨some d, .binOp op xt x y yt, ty, pos, aft, none⟩).events X.P w' #[] = #[] := by
  have e1 : a.eval x = .int kd m := hs.ev hx
  have e2 : a.eval y = .int k2 n := hs.ev hy
  have e3 : (eqGuard op xt x y (.int kd m) (.int k2 n)).run X.P w' = .ok () w' := by unfold eqGuard; cases op <;> rfl
  have e4 : (eqGuard op xt x y (.int kd m) (.int k2 n)).events X.P w' #[] = #[] := by unfold eqGuard; cases op <;> rfl
  simp [execOp, e1, e2, e3, e4, hr]
theorem ps_add (hx : s.ev x = some (.v (.int .i64 m))) (hy : s.ev y = some (.v (.int .i64 n))) (hd : Nat.blt d X.nt = true) (hr : InI (m + n)) :
    PureE X H0 ⟨some d, .binOp .add xt x y yt, ty, pos, aft, none⟩ s (s.put d (.v (.int .i64 (m + n)))) :=
  .quiet (Sx.ps_add hx hy hd hr) fun I a w hs w' => ev_bin hs hx hy (by simp [binOp, Op.intArith])
theorem ps_fieldAddr {β : BK} {size e f i off fsz : Nat} {ag : Bool} {t : TypeId} [hf : FdT X.P t i off fsz ag] (hx : s.ev x = some (.ptr β size e f)) (hd : Nat.blt d X.nt = true) :
    PureE X H0 ⟨some d, .fieldAddr t x i, ty, pos, aft, none⟩ s (s.put d (.ptr β size e (f + off))) :=
  .quiet (Sx.ps_fieldAddr hx hd) fun I a w hs w' => by
    have hv : a.eval x = .pointer (some ⟨β.b, β.o + (e * size + f), none⟩) := hs.ev hx
    obtain ⟨fs, fd, h1, h2, h3, h4, h5, h6⟩ := hf.h
    simp [execOp, Instr.fieldAt, Instr.sureAddr, fieldPlace, hv, run_underlying h1, h2, h3, h4, h6, addr_add, Nat.add_assoc]
theorem ps_extract {n i : Nat} {get : Nat → D} (hx : s.ev x = some (.tp n get)) (hi : Nat.blt i n = true) (hd : Nat.blt d X.nt = true) : PureE X H0 ⟨some d, .extract x i, ty, pos, aft, none⟩ s (s.put d (get i)) :=
  .quiet (Sx.ps_extract hx hi hd) fun I a w hs w' => by
    obtain ⟨vs, hv, _, h⟩ := hs.ev hx
    obtain ⟨u, hu, hr⟩ := h i (blt_lt hi)
    simp [execOp, Instr.extract, hv, hu]
theorem ps_len {n : Nat} {t e : TypeId} [ht : SlT X.P t e] (hx : s.ev x = some q) (hl : LenOf q n) (hd : Nat.blt d X.nt = true) :
    PureE X H0 ⟨some d, .call { callee := .builtin .len, args := #[x], argTypes := #[t] }, ty, pos, aft, none⟩ s (s.put d (.v (.int .i64 n))) :=
  .quiet (Sx.ps_len hx hl hd) fun I a w hs w' => by
    obtain ⟨ad, c, hv⟩ := hl.read (hs.ev hx)
    simp [execOp, resolve, invoke, builtin, Builtin.len_, hv, run_underlying ht.h, goInt]
theorem ps_indexAddr {β : BK} {size r len : Nat} {i : Int} {kd : IntKind} {t e : TypeId} {ag : Bool} [ht : SlT X.P t e] [he : TI X.P e size ag] (hx : s.ev x = some (.own β size r len)) (hy : s.ev y = some (.v (.int kd i)))
    (hi : 0 ≤ i ∧ i < (len : Int)) (hd : Nat.blt d X.nt = true) : PureE X H0 ⟨some d, .indexAddr t x y, ty, pos, aft, none⟩ s (s.put d (.ptr β size (i.toNat + r) 0)) :=
  .quiet (Sx.ps_indexAddr hx hy hi hd) fun I a w hs w' => by
    obtain ⟨ad, cap, hv, h1, h2, h3, h4⟩ := hs.ev hx
    have ev : a.eval y = .int kd i := hs.ev hy
    have h5 := h4 (by omega)
    simp [execOp, Instr.indexAt, asIntOf, hv, ev, run_underlying ht.h, h5, hi, he.size, addr_add]
theorem ps_load {β : BK} {size e f : Nat} {t te : TypeId} {n : Nat} {c : C} {H H1 : List HL} [ht : TI X.P t n false] (hx : s.ev x = some (.ptr β size e f)) (hm : At s.heap (.one β te size c) (.one β te size c) H) (hm0 : At H0 (.one β te size c) (.one β te size c) H1)
    (he : e < c.len) (hf : Nat.blt f size = true) (hd : Nat.blt d X.nt = true) : PureE X H0 ⟨some d, .load t x, ty, pos, aft, none⟩ s (s.put d (c.get e f)) :=
  ⟨Sx.ps_load hx hm hm0 he hf hd, fun I a w hs w' hw ev hev => by
    have hv : a.eval x = .pointer (some ⟨β.b, β.o + (e * size + f), none⟩) := hs.ev hx
    have hb : BOk _ w β te size c := hs.heap _ hm.mem
    obtain ⟨u, hu, _, hr⟩ := hb.cell he (blt_lt hf)
    have hpos : 0 < β.s := by have := hb.1; omega
    have hcell : w'.cell? ⟨β.b, β.o + (e * size + f), none⟩ = some u := (World.cell?_of_block (w := w) (w' := w') (hw β.b (.inr ⟨_, hm0.mem, hpos, rfl⟩))).trans hu
    simp [execOp, Instr.loadAt, Instr.sureAddr, hv, loadVar, ht.agg, hcell] at hev
    subst hev
    exact ⟨_, rfl, rfl, .inr ⟨_, hm0.mem, hpos, rfl⟩⟩⟩
theorem ps_sub (hx : s.ev x = some (.v (.int .i64 m))) (hy : s.ev y = some (.v (.int .i64 n))) (hd : Nat.blt d X.nt = true) (hr : InI (m - n)) :
    PureE X H0 ⟨some d, .binOp .sub xt x y yt, ty, pos, aft, none⟩ s (s.put d (.v (.int .i64 (m - n)))) :=
  .quiet (Sx.ps_sub hx hy hd hr) fun I a w hs w' => ev_bin hs hx hy (by simp [binOp, Op.intArith])
theorem ps_rem (hx : s.ev x = some (.v (.int kd m))) (hy : s.ev y = some (.v (.int kd n))) (hd : Nat.blt d X.nt = true) (h0 : n ≠ 0) :
    PureE X H0 ⟨some d, .binOp .rem xt x y yt, ty, pos, aft, none⟩ s (s.put d (.v (.int kd (m.tmod n)))) :=
  .quiet (Sx.ps_rem hx hy hd h0) fun I a w hs w' => ev_bin hs hx hy (by simp [binOp, Op.intDiv, h0])
theorem ps_lss (hx : s.ev x = some (.v (.int kd m))) (hy : s.ev y = some (.v (.int kd n))) (hd : Nat.blt d X.nt = true) :
    PureE X H0 ⟨some d, .binOp .lss xt x y yt, ty, pos, aft, none⟩ s (s.put d (.v (.bool (decide (m < n))))) :=
  .quiet (Sx.ps_lss hx hy hd) fun I a w hs w' => ev_bin hs hx hy (by simp [binOp, Op.intCmp])
theorem ps_gtr (hx : s.ev x = some (.v (.int kd m))) (hy : s.ev y = some (.v (.int kd n))) (hd : Nat.blt d X.nt = true) :
    PureE X H0 ⟨some d, .binOp .gtr xt x y yt, ty, pos, aft, none⟩ s (s.put d (.v (.bool (decide (n < m))))) :=
  .quiet (Sx.ps_gtr hx hy hd) fun I a w hs w' => ev_bin hs hx hy (by simp [binOp, Op.intCmp])
theorem ps_geq (hx : s.ev x = some (.v (.int kd m))) (hy : s.ev y = some (.v (.int kd n))) (hd : Nat.blt d X.nt = true) :
    PureE X H0 ⟨some d, .binOp .geq xt x y yt, ty, pos, aft, none⟩ s (s.put d (.v (.bool (decide (n ≤ m))))) :=
  .quiet (Sx.ps_geq hx hy hd) fun I a w hs w' => ev_bin hs hx hy (by simp [binOp, Op.intCmp])
theorem ps_eql (hx : s.ev x = some (.v (.int kd m))) (hy : s.ev y = some (.v (.int kd n))) (hd : Nat.blt d X.nt = true) :
    PureE X H0 ⟨some d, .binOp .eql xt x y yt, ty, pos, aft, none⟩ s (s.put d (.v (.bool (decide (m = n))))) :=
  .quiet (Sx.ps_eql hx hy hd) fun I a w hs w' => ev_bin hs hx hy (by simp [binOp, Op.intCmp])
theorem ps_neq (hx : s.ev x = some (.v (.int kd m))) (hy : s.ev y = some (.v (.int kd n))) (hd : Nat.blt d X.nt = true) :
    PureE X H0 ⟨some d, .binOp .neq xt x y yt, ty, pos, aft, none⟩ s (s.put d (.v (.bool (decide (m ≠ n))))) :=
  .quiet (Sx.ps_neq hx hy hd) fun I a w hs w' => ev_bin hs hx hy (by simp [binOp, Op.intCmp])
theorem ps_shl (hx : s.ev x = some (.v (.int kd m))) (hy : s.ev y = some (.v (.int k2 n))) (hd : Nat.blt d X.nt = true) (h0 : 0 ≤ n) :
    PureE X H0 ⟨some d, .binOp .shl xt x y yt, ty, pos, aft, none⟩ s (s.put d (.v (.int kd (kd.wrap (m * 2 ^ min n.toNat kd.bits))))) :=
  .quiet (Sx.ps_shl hx hy hd h0) fun I a w hs w' => ev_bin hs hx hy (by simp [binOp, Op.shift, show ¬ n < 0 by omega])
theorem ps_shr (hx : s.ev x = some (.v (.int kd m))) (hy : s.ev y = some (.v (.int k2 n))) (hd : Nat.blt d X.nt = true) (h0 : 0 ≤ n) :
    PureE X H0 ⟨some d, .binOp .shr xt x y yt, ty, pos, aft, none⟩ s (s.put d (.v (.int kd (m.fdiv (2 ^ min n.toNat kd.bits))))) :=
  .quiet (Sx.ps_shr hx hy hd h0) fun I a w hs w' => ev_bin hs hx hy (by simp [binOp, Op.shift, show ¬ n < 0 by omega])
theorem ps_or (hx : s.ev x = some (.v (.int kd m))) (hy : s.ev y = some (.v (.int kd n))) (hd : Nat.blt d X.nt = true) :
    PureE X H0 ⟨some d, .binOp .or xt x y yt, ty, pos, aft, none⟩ s (s.put d (.v (.int kd (bitsOf .or kd m n)))) :=
  .quiet (Sx.ps_or hx hy hd) fun I a w hs w' => ev_bin hs hx hy (by simp [binOp, Op.intBits])
theorem ps_and (hx : s.ev x = some (.v (.int kd m))) (hy : s.ev y = some (.v (.int kd n))) (hd : Nat.blt d X.nt = true) :
    PureE X H0 ⟨some d, .binOp .and xt x y yt, ty, pos, aft, none⟩ s (s.put d (.v (.int kd (bitsOf .and kd m n)))) :=
  .quiet (Sx.ps_and hx hy hd) fun I a w hs w' => ev_bin hs hx hy (by simp [binOp, Op.intBits])
theorem ps_fieldAddrR {size len e f i off fsz : Nat} {ag : Bool} {get : Nat → Nat → D} {t : TypeId} [hf : FdT X.P t i off fsz ag] (hx : s.ev x = some (.rp size len get e f)) (hd : Nat.blt d X.nt = true) :
    PureE X H0 ⟨some d, .fieldAddr t x i, ty, pos, aft, none⟩ s (s.put d (.rp size len get e (f + off))) :=
  .quiet (Sx.ps_fieldAddrR hx hd) fun I a w hs w' => by
    obtain ⟨g, q, hv, hg, hc⟩ := hs.ev hx
    obtain ⟨fs, fd, h1, h2, h3, h4, h5, h6⟩ := hf.h
    simp [execOp, Instr.fieldAt, Instr.sureAddr, fieldPlace, hv, run_underlying h1, h2, h3, h4, h6, addr_add, Nat.add_assoc]
theorem ps_nilCheck {β : BK} {size e f : Nat} (hx : s.ev x = some (.ptr β size e f)) (hd : Nat.blt d X.nt = true) : PureE X H0 ⟨some d, .nilCheck x, ty, pos, aft, none⟩ s (s.put d (.ptr β size e f)) :=
  .quiet (Sx.ps_nilCheck hx hd) fun I a w hs w' => by
    have hv := hs.ev hx
    simp only [Rd] at hv
    simp [execOp, hv]
theorem ps_indexAddrR {size len : Nat} {get : Nat → Nat → D} {i : Int} {kd : IntKind} {t e : TypeId} {ag : Bool} [ht : SlT X.P t e] [he : TI X.P e size ag] (hx : s.ev x = some (.sl size len get)) (hy : s.ev y = some (.v (.int kd i)))
    (hi : 0 ≤ i ∧ i < (len : Int)) (hd : Nat.blt d X.nt = true) : PureE X H0 ⟨some d, .indexAddr t x y, ty, pos, aft, none⟩ s (s.put d (.rp size len get i.toNat 0)) :=
  .quiet (Sx.ps_indexAddrR hx hy hi hd) fun I a w hs w' => by
    obtain ⟨ad, cap, hv, h1, h2, h3⟩ := hs.ev hx
    have ev : a.eval y = .int kd i := hs.ev hy
    obtain ⟨g, q, ha, hg, hc⟩ := h3 (by omega)
    simp [execOp, Instr.indexAt, asIntOf, hv, ev, run_underlying ht.h, ha, hi, he.size, addr_add]
theorem ps_indexAddrRN {size len i : Nat} {get : Nat → Nat → D} {kd : IntKind} {t e : TypeId} {ag : Bool} [ht : SlT X.P t e] [he : TI X.P e size ag] (hx : s.ev x = some (.sl size len get)) (hy : s.ev y = some (.v (.int kd (i : Int))))
    (hi : i < len) (hd : Nat.blt d X.nt = true) : PureE X H0 ⟨some d, .indexAddr t x y, ty, pos, aft, none⟩ s (s.put d (.rp size len get i 0)) :=
  ps_indexAddrR hx hy ⟨by omega, by omega⟩ hd
theorem ps_indexAddr0 {β : BK} {size len : Nat} {i : Int} {kd : IntKind} {t e : TypeId} {ag : Bool} [ht : SlT X.P t e] [he : TI X.P e size ag] (hx : s.ev x = some (.own β size 0 len)) (hy : s.ev y = some (.v (.int kd i)))
    (hi : 0 ≤ i ∧ i < (len : Int)) (hd : Nat.blt d X.nt = true) : PureE X H0 ⟨some d, .indexAddr t x y, ty, pos, aft, none⟩ s (s.put d (.ptr β size i.toNat 0)) :=
  ps_indexAddr hx hy hi hd
theorem ps_indexAddr0N {β : BK} {size len i : Nat} {kd : IntKind} {t e : TypeId} {ag : Bool} [ht : SlT X.P t e] [he : TI X.P e size ag] (hx : s.ev x = some (.own β size 0 len)) (hy : s.ev y = some (.v (.int kd (i : Int))))
    (hi : i < len) (hd : Nat.blt d X.nt = true) : PureE X H0 ⟨some d, .indexAddr t x y, ty, pos, aft, none⟩ s (s.put d (.ptr β size i 0)) :=
  ps_indexAddr hx hy ⟨by omega, by omega⟩ hd
theorem ps_indexAddrA {β : BK} {size e0 f n esz : Nat} {i : Int} {kd : IntKind} {t e : TypeId} {ag : Bool} [ht : ArT X.P t n e] [he : TI X.P e esz ag] (hx : s.ev x = some (.ptr β size e0 f)) (hy : s.ev y = some (.v (.int kd i)))
    (hi : 0 ≤ i ∧ i < (n : Int)) (hd : Nat.blt d X.nt = true) : PureE X H0 ⟨some d, .indexAddr t x y, ty, pos, aft, none⟩ s (s.put d (.ptr β size e0 (f + i.toNat * esz))) :=
  .quiet (Sx.ps_indexAddrA hx hy hi hd) fun I a w hs w' => by
    have hv : a.eval x = .pointer (some ⟨β.b, β.o + (e0 * size + f), none⟩) := hs.ev hx
    have ev : a.eval y = .int kd i := hs.ev hy
    simp [execOp, Instr.indexAt, Instr.sureAddr, asIntOf, hv, ev, run_underlying ht.h, hi, he.size, addr_add, Nat.add_assoc]
theorem ps_min {ats : Array TypeId} (hx : s.ev x = some (.v (.int kd m))) (hy : s.ev y = some (.v (.int kd n))) (hd : Nat.blt d X.nt = true) :
    PureE X H0 ⟨some d, .call { callee := .builtin .min, args := #[x, y], argTypes := ats }, ty, pos, aft, none⟩ s (s.put d (.v (.int kd (min m n)))) :=
  .quiet (Sx.ps_min hx hy hd) fun I a w hs w' => by
    have e1 : a.eval x = .int kd m := hs.ev hx
    have e2 : a.eval y = .int kd n := hs.ev hy
    simp [execOp, resolve, invoke, builtin, Builtin.min_, Builtin.min2, e1, e2]
theorem ps_max {ats : Array TypeId} (hx : s.ev x = some (.v (.int kd m))) (hy : s.ev y = some (.v (.int kd n))) (hd : Nat.blt d X.nt = true) :
    PureE X H0 ⟨some d, .call { callee := .builtin .max, args := #[x, y], argTypes := ats }, ty, pos, aft, none⟩ s (s.put d (.v (.int kd (max m n)))) :=
  .quiet (Sx.ps_max hx hy hd) fun I a w hs w' => by
    have e1 : a.eval x = .int kd m := hs.ev hx
    have e2 : a.eval y = .int kd n := hs.ev hy
    simp [execOp, resolve, invoke, builtin, Builtin.max_, Builtin.max2, e1, e2]
theorem ps_lenS {t : TypeId} {z : ByteArray} [ht : StT X.P t] (hx : s.ev x = some (.v (.string z))) (hd : Nat.blt d X.nt = true) :
    PureE X H0 ⟨some d, .call { callee := .builtin .len, args := #[x], argTypes := #[t] }, ty, pos, aft, none⟩ s (s.put d (.v (.int .i64 ((z.size : Nat) : Int)))) :=
  .quiet (Sx.ps_lenS hx hd) fun I a w hs w' => by
    have hv : a.eval x = .string z := hs.ev hx
    simp [execOp, resolve, invoke, builtin, Builtin.len_, hv, run_underlying ht.h, goInt]
theorem ps_capNil {t e : TypeId} [ht : SlT X.P t e] (hx : s.ev x = some (.v (.slice none 0 0))) (hd : Nat.blt d X.nt = true) :
    PureE X H0 ⟨some d, .call { callee := .builtin .cap, args := #[x], argTypes := #[t] }, ty, pos, aft, none⟩ s (s.put d (.v (.int .i64 0))) :=
  .quiet (Sx.ps_capNil hx hd) fun I a w hs w' => by
    have hv : a.eval x = .slice none 0 0 := hs.ev hx
    simp [execOp, resolve, invoke, builtin, Builtin.cap_, hv, run_underlying ht.h, goInt]
theorem ps_not {b : Bool} {xt : TypeId} (hx : s.ev x = some (.v (.bool b))) (hd : Nat.blt d X.nt = true) : PureE X H0 ⟨some d, .unOp .not xt x, ty, pos, aft, none⟩ s (s.put d (.v (.bool (!b)))) :=
  .quiet (Sx.ps_not hx hd) fun I a w hs w' => by
    have e1 : a.eval x = .bool b := hs.ev hx
    simp [execOp, e1, Op.unary]
theorem ps_makeFunc {f : FuncId} {xs : List Operand} {ds : List D} {n : Nat} (hx : evL s xs = some ds) (hn : n = ds.length) (hd : Nat.blt d X.nt = true) :
    PureE X H0 ⟨some d, .makeFunc (.func f) #[] xs.toArray, ty, pos, aft, none⟩ s (s.put d (.fn f n (nth ds))) :=
  .quiet (Sx.ps_makeFunc hx hn hd) fun I a w hs w' => by simp [execOp, Instr.makeFunc]
theorem ps_eqlStr {p q : ByteArray} (hx : s.ev x = some (.v (.string p))) (hy : s.ev y = some (.v (.string q))) (hd : Nat.blt d X.nt = true) :
    PureE X H0 ⟨some d, .binOp .eql xt x y yt, ty, pos, aft, none⟩ s (s.put d (.v (.bool (decide (p = q))))) :=
  .quiet (Sx.ps_eqlStr hx hy hd) fun I a w hs w' => by
    have e1 : a.eval x = .string p := hs.ev hx
    have e2 : a.eval y = .string q := hs.ev hy
    have e4 : (eqGuard .eql xt x y (.string p) (.string q)).run X.P w' = .ok () w' := rfl
    have e5 : (eqGuard .eql xt x y (.string p) (.string q)).events X.P w' #[] = #[] := rfl
    simp [execOp, e1, e2, e4, e5, binOp, Op.stringOp]
theorem ps_indexV {α : Type} [El α] {n m : Nat} {g : Nat → α} {t e : TypeId} {i : Int} {kd : IntKind} [ht : ArT X.P t n e] [he : TI X.P e 1 false] (hx : s.ev x = some (.ag m (arrG g))) (hy : s.ev y = some (.v (.int kd i))) (hi : 0 ≤ i ∧ i < (n : Int))
    (hz : El.size α = 1) (hm : Nat.ble n m = true) (hd : Nat.blt d X.nt = true) : PureE X H0 ⟨some d, .index t x y, ty, pos, aft, none⟩ s (s.put d (El.enc (g i.toNat) 0)) :=
  .quiet (Sx.ps_indexV hx hy hi hz hm hd) fun I a w hs w' => by
    obtain ⟨vs, hv, hsz, h⟩ := hs.ev hx
    have ev : a.eval y = .int kd i := hs.ev hy
    have hm' := Nat.le_of_ble_eq_true hm
    obtain ⟨u, hu, _, hr⟩ := h i.toNat (by omega)
    simp [execOp, Instr.index, asIntOf, hv, ev, run_underlying ht.h, hi, he.size, part, he.agg, hu]
theorem ps_convK {m : Int} {k k2 : IntKind} {src dst : TypeId} [h1 : IntT X.P src k] [h2 : IntT X.P dst k2] (hx : s.ev x = some (.v (.int k m))) (hd : Nat.blt d X.nt = true) :
    PureE X H0 ⟨some d, .convert src dst x, ty, pos, aft, none⟩ s (s.put d (.v (.int k2 (k2.wrap m)))) :=
  .quiet (Sx.ps_convK hx hd) fun I a w hs w' => by
    have e1 : a.eval x = .int k m := hs.ev hx
    simp [execOp, e1, convert, run_underlying h1.h, run_underlying h2.h, Conv.intToInt]
theorem ps_loadR {size len e f : Nat} {get : Nat → Nat → D} {t : TypeId} {n : Nat} [ht : TI X.P t n false] (hx : s.ev x = some (.rp size len get e f))
    (he : e < len) (hf : Nat.blt f size = true) (hd : Nat.blt d X.nt = true) : PureE X H0 ⟨some d, .load t x, ty, pos, aft, none⟩ s (s.put d (get e f)) :=
  ⟨Sx.ps_loadR hx he hf hd, fun I a w hs w' hw ev hev => by
    obtain ⟨g, q, hv, hg, hc⟩ := hs.ev hx
    obtain ⟨u, hu, _, hr⟩ := hc e he f (blt_lt hf)
    have hcell : w'.cell? ⟨g, q + (e * size + f), none⟩ = some u := (World.cell?_of_block (w := w) (w' := w') (hw g (.inl hg))).trans hu
    simp [execOp, Instr.loadAt, Instr.sureAddr, hv, loadVar, ht.agg, hcell] at hev
    subst hev
    exact ⟨_, rfl, rfl, .inl hg⟩⟩
theorem ev_loadAgg {P : Program} {w : World} {b o n : Nat} (h : ∀ j, j < n → ∃ u, w.cell? ⟨b, o + j, none⟩ = some u) {ev : Event} (hev : ev ∈ (loadCells ⟨b, o, none⟩ n).events P w #[]) : ∃ ad : Addr, ev.loc = .cell ad ∧ ev.write = false ∧ ad.block = b := by
  rcases events_loadCellsFrom_at (P := P) ⟨b, o, none⟩ (fun x => x = b) rfl n 0 #[] w #[] (fun j hj => by
    obtain ⟨u, hu⟩ := h j hj
    rw [Nat.zero_add, addr_add, hu]; rfl) ev hev with h | h
  · exact absurd h (Array.not_mem_empty _)
  · exact h
theorem ps_loadAg {β : BK} {size e f : Nat} {t te : TypeId} {n : Nat} {c : C} {H H1 : List HL} [ht : TI X.P t n true] (hx : s.ev x = some (.ptr β size e f)) (hm : At s.heap (.one β te size c) (.one β te size c) H) (hm0 : At H0 (.one β te size c) (.one β te size c) H1)
    (he : e < c.len) (hf : Nat.ble (f + n) size = true) (hd : Nat.blt d X.nt = true) : PureE X H0 ⟨some d, .load t x, ty, pos, aft, none⟩ s (s.put d (.ag n (fun j => c.get e (j + f)))) :=
  ⟨Sx.ps_loadAg hx hm hm0 he hf hd, fun I a w hs w' hw ev hev => by
    have hv : a.eval x = .pointer (some ⟨β.b, β.o + (e * size + f), none⟩) := hs.ev hx
    have hb : BOk _ w β te size c := hs.heap _ hm.mem
    have hf' := Nat.le_of_ble_eq_true hf
    have hpos : 0 < β.s := by have := hb.1; omega
    have hc : ∀ j, j < n → ∃ u, w'.cell? ⟨β.b, β.o + (e * size + f) + j, none⟩ = some u := fun j hj => by
      obtain ⟨u, h⟩ := hb.cell he (show j + f < size by omega)
      refine ⟨u, (World.cell?_of_block (w := w) (w' := w') (hw β.b (.inr ⟨_, hm0.mem, hpos, rfl⟩))).trans ?_⟩
      rw [show β.o + (e * size + f) + j = β.o + (e * size + (j + f)) by omega]
      exact h.1
    simp [execOp, Instr.loadAt, Instr.sureAddr, hv, loadVar, ht.agg, ht.size] at hev
    obtain ⟨ad, h1, h2, h3⟩ := ev_loadAgg hc hev
    exact ⟨ad, h1, h2, .inr (by rw [h3]; exact ⟨_, hm0.mem, hpos, rfl⟩)⟩⟩
theorem ps_loadAgR {size len e f : Nat} {get : Nat → Nat → D} {t : TypeId} {n : Nat} [ht : TI X.P t n true] (hx : s.ev x = some (.rp size len get e f))
    (he : e < len) (hf : Nat.ble (f + n) size = true) (hd : Nat.blt d X.nt = true) : PureE X H0 ⟨some d, .load t x, ty, pos, aft, none⟩ s (s.put d (.ag n (fun j => get e (j + f)))) :=
  ⟨Sx.ps_loadAgR hx he hf hd, fun I a w hs w' hw ev hev => by
    obtain ⟨g, q, hv, hg, hcc⟩ := hs.ev hx
    have hf' := Nat.le_of_ble_eq_true hf
    have hc : ∀ j, j < n → ∃ u, w'.cell? ⟨g, q + (e * size + f) + j, none⟩ = some u := fun j hj => by
      obtain ⟨u, h⟩ := hcc e he (j + f) (show j + f < size by omega)
      refine ⟨u, (World.cell?_of_block (w := w) (w' := w') (hw g (.inl hg))).trans ?_⟩
      rw [show q + (e * size + f) + j = q + (e * size + (j + f)) by omega]
      exact h.1
    simp [execOp, Instr.loadAt, Instr.sureAddr, hv, loadVar, ht.agg, ht.size] at hev
    obtain ⟨ad, h1, h2, h3⟩ := ev_loadAgg hc hev
    exact ⟨ad, h1, h2, .inl (by rw [h3]; exact hg)⟩⟩
theorem ps_loadA {α : Type} [El α] {β : BK} {size F i off n m : Nat} {pre : List D} {g : Nat → α} {t te : TypeId} {H H1 : List HL} [ht : TI X.P t m false] (hx : s.ev x = some (.ptr β size 0 F))
    (hm : At s.heap (.one β te size (arrC pre g)) (.one β te size (arrC pre g)) H) (hm0 : At H0 (.one β te size (arrC pre g)) (.one β te size (arrC pre g)) H1)
    (hF : F = pre.length + (i * El.size α + off)) (hi : i < n) (ho : Nat.blt off (El.size α) = true) (hs : Nat.ble (pre.length + n * El.size α) size = true) (hd : Nat.blt d X.nt = true) :
    PureE X H0 ⟨some d, .load t x, ty, pos, aft, none⟩ s (s.put d (El.enc (g i) off)) :=
  ⟨Sx.ps_loadA hx hm hm0 hF hi ho hs hd, (ps_load (H0 := H0) (ty := ty) (pos := pos) (aft := aft) (t := t) hx hm hm0 (by simp [arrC]) (blt_of (arr_lt hF hi (blt_lt ho) hs)) hd).2⟩
theorem ps_loadAgA {α : Type} [El α] {β : BK} {size F i off n m : Nat} {pre : List D} {g : Nat → α} {t te : TypeId} {H H1 : List HL} [ht : TI X.P t m true] (hx : s.ev x = some (.ptr β size 0 F))
    (hm : At s.heap (.one β te size (arrC pre g)) (.one β te size (arrC pre g)) H) (hm0 : At H0 (.one β te size (arrC pre g)) (.one β te size (arrC pre g)) H1)
    (hF : F = pre.length + (i * El.size α + 0)) (hi : i < n) (ho : El.size α = m) (hs : Nat.ble (pre.length + n * El.size α) size = true) (hd : Nat.blt d X.nt = true) :
    PureE X H0 ⟨some d, .load t x, ty, pos, aft, none⟩ s (s.put d (.ag m (El.enc (g i)))) :=
  ⟨Sx.ps_loadAgA (off := off) hx hm hm0 hF hi ho hs hd, (ps_loadAg (H0 := H0) (ty := ty) (pos := pos) (aft := aft) (t := t) hx hm hm0 (by simp [arrC]) (show Nat.ble (F + m) size = true by
    have h1 := Nat.le_of_ble_eq_true hs
    have h2 := le_cells (s := n) (size := El.size α) (e := i) (f := El.size α) hi (Nat.le_refl _)
    rw [Nat.ble_eq]; omega) hd).2⟩
theorem ev_slicing {P : Program} {w : World} {t e : TypeId} {size : Nat} {ag : Bool} (ht : P.underlying t = some (.slice e)) (he : TI P e size ag) {a : Option Addr} {len cap l h : Nat} {lo hi : Option Value}
    (hlo : (lo = none ∧ l = 0) ∨ ∃ kd, lo = some (.int kd (l : Int))) (hhi : (hi = none ∧ h = len) ∨ ∃ kd, hi = some (.int kd (h : Int))) (h1 : l ≤ h) (h2 : h ≤ cap) :
    (Instr.sliceAt t (.slice a len cap) lo hi none).events P w #[] = #[] := by
  have h3 : ¬ cap < h := by omega
  have h4 : ¬ h < l := by omega
  rcases hlo with ⟨rfl, rfl⟩ | ⟨k1, rfl⟩ <;> rcases hhi with ⟨rfl, rfl⟩ | ⟨k2, rfl⟩ <;>
    simp [Instr.sliceAt, Instr.slice, run_underlying ht, Instr.sliceBounds, Instr.sliceBound, asIntOf, he.size, h1, h2, h3, h4]
theorem ps_slice {β : BK} {size r len l h : Nat} {t e : TypeId} {ag : Bool} {lo hi : Option Operand} [ht : SlT X.P t e] [he : TI X.P e size ag] (hx : s.ev x = some (.own β size r len)) (hlo : Bd s lo l 0) (hhi : Bd s hi h len)
    (h1 : l ≤ h) (h2 : h ≤ len) (hd : Nat.blt d X.nt = true) : PureE X H0 ⟨some d, .slice t x lo hi none, ty, pos, aft, none⟩ s (s.put d (.own β size (l + r) (h - l))) :=
  .quiet (Sx.ps_slice hx hlo hhi h1 h2 hd) fun I a w hs w' => by
    obtain ⟨ad, cap, hv, g1, g2, g3, g4⟩ := hs.ev hx
    have b1 : (lo.map a.eval = none ∧ l = 0) ∨ ∃ kd, lo.map a.eval = some (.int kd (l : Int)) := (hlo.val hs).imp (fun ⟨e1, e2⟩ => ⟨by rw [e1]; rfl, e2⟩) id
    have b2 : (hi.map a.eval = none ∧ h = len) ∨ ∃ kd, hi.map a.eval = some (.int kd (h : Int)) := (hhi.val hs).imp (fun ⟨e1, e2⟩ => ⟨by rw [e1]; rfl, e2⟩) id
    simp [execOp, hv, run_slicing ht.h he b1 b2 h1 (show h ≤ cap by omega), ev_slicing ht.h he b1 b2 h1 (show h ≤ cap by omega)]
theorem ps_sliceOff {β : BK} {t e : TypeId} {size len m l h : Nat} {ag : Bool} {ad : Option Addr} {kd : IntKind} {lo : Operand} {hi : Option Operand} [ht : SlT X.P t e] [he : TI X.P e size ag] (hE : Exact β len ad m) (hx : s.ev x = some (.v (.slice ad len m)))
    (hlo : s.ev lo = some (.v (.int kd (l : Int)))) (hhi : Bd s hi h len) (h1 : l ≤ h) (h2 : h ≤ m) (hd : Nat.blt d X.nt = true) : PureE X H0 ⟨some d, .slice t x (some lo) hi none, ty, pos, aft, none⟩ s (s.put d (.own β size l (h - l))) :=
  .quiet (Sx.ps_sliceOff hE hx hlo hhi h1 h2 hd) fun I a w hs w' => by
    have hv : a.eval x = .slice ad len m := hs.ev hx
    have e1 : a.eval lo = .int kd (l : Int) := hs.ev hlo
    have b2 : (hi.map a.eval = none ∧ h = len) ∨ ∃ kd, hi.map a.eval = some (.int kd (h : Int)) := (hhi.val hs).imp (fun ⟨e1, e2⟩ => ⟨by rw [e1]; rfl, e2⟩) id
    have k1 := run_slicing (P := X.P) (w := w') ht.h he (a := ad) (len := len) (cap := m) (l := l) (h := h) (lo := some (.int kd l)) (.inr ⟨kd, rfl⟩) b2 h1 h2
    have k2 := ev_slicing (P := X.P) (w := w') ht.h he (a := ad) (len := len) (cap := m) (l := l) (h := h) (lo := some (.int kd l)) (.inr ⟨kd, rfl⟩) b2 h1 h2
    simp [execOp, hv, e1, k1, k2]
theorem ps_sliceTo {β : BK} {t e : TypeId} {size len m j : Nat} {ag : Bool} {ad : Option Addr} {kd : IntKind} [ht : SlT X.P t e] [he : TI X.P e size ag] (hE : Exact β len ad m) (hx : s.ev x = some (.v (.slice ad len m)))
    (hy : s.ev y = some (.v (.int kd (j : Int)))) (hj : j ≤ m) (hd : Nat.blt d X.nt = true) : PureE X H0 ⟨some d, .slice t x none (some y) none, ty, pos, aft, none⟩ s (s.put d (.v (.slice ad j m))) :=
  .quiet (Sx.ps_sliceTo hE hx hy hj hd) fun I a w hs w' => by
    have hv : a.eval x = .slice ad len m := hs.ev hx
    have e1 : a.eval y = .int kd (j : Int) := hs.ev hy
    have k1 := run_slicing (P := X.P) (w := w') ht.h he (a := ad) (len := len) (cap := m) (l := 0) (h := j) (lo := none) (hi := some (.int kd j)) (.inl ⟨rfl, rfl⟩) (.inr ⟨kd, rfl⟩) (Nat.zero_le _) hj
    have k2 := ev_slicing (P := X.P) (w := w') ht.h he (a := ad) (len := len) (cap := m) (l := 0) (h := j) (lo := none) (hi := some (.int kd j)) (.inl ⟨rfl, rfl⟩) (.inr ⟨kd, rfl⟩) (Nat.zero_le _) hj
    simp [execOp, hv, e1, k1, k2]
theorem ps_slice3J {t e : TypeId} {size len m i j : Nat} {ag : Bool} {ad : Option Addr} {k1 k2 k3 : IntKind} {lo hi mx : Operand} [ht : SlT X.P t e] [he : TI X.P e size ag] (hx : s.ev x = some (.v (.slice ad len m)))
    (hlo : s.ev lo = some (.v (.int k1 (i : Int)))) (hhi : s.ev hi = some (.v (.int k2 (j : Int)))) (hmx : s.ev mx = some (.v (.int k3 (len : Int)))) (h1 : i ≤ j) (h2 : j ≤ len) (h3 : len ≤ m) (hd : Nat.blt d X.nt = true) :
    PureE X H0 ⟨some d, .slice t x (some lo) (some hi) (some mx), ty, pos, aft, none⟩ s (s.put d .junk) :=
  .quiet (Sx.ps_slice3J hx hlo hhi hmx h1 h2 h3 hd) fun I a w hs w' => by
    have hv : a.eval x = .slice ad len m := hs.ev hx
    have e1 : a.eval lo = .int k1 (i : Int) := hs.ev hlo
    have e2 : a.eval hi = .int k2 (j : Int) := hs.ev hhi
    have e3 : a.eval mx = .int k3 (len : Int) := hs.ev hmx
    have g1 : ¬ m < len := by omega
    have g2 : ¬ len < j := by omega
    have g3 : ¬ j < i := by omega
    simp [execOp, Instr.sliceAt, Instr.slice, run_underlying ht.h, Instr.sliceBounds, Instr.sliceBound, asIntOf, he.size, hv, e1, e2, e3, h1, h2, h3, g1, g2, g3]
theorem ps_sliceNil {t e : TypeId} {size : Nat} {ag : Bool} {k : IntKind} [ht : SlT X.P t e] [he : TI X.P e size ag] (hx : s.ev x = some (.v (.slice none 0 0))) (hy : s.ev y = some (.v (.int k 0))) (hd : Nat.blt d X.nt = true) :
    PureE X H0 ⟨some d, .slice t x none (some y) none, ty, pos, aft, none⟩ s (s.put d (.v (.slice none 0 0))) :=
  .quiet (Sx.ps_sliceNil hx hy hd) fun I a w hs w' => by
    have hv : a.eval x = .slice none 0 0 := hs.ev hx
    have e1 : a.eval y = .int k 0 := hs.ev hy
    have k1 := run_slicing (P := X.P) (w := w') ht.h he (a := none) (len := 0) (cap := 0) (l := 0) (h := 0) (lo := none) (hi := some (.int k 0)) (.inl ⟨rfl, rfl⟩) (.inr ⟨k, rfl⟩) (Nat.le_refl _) (Nat.le_refl _)
    have k2 := ev_slicing (P := X.P) (w := w') ht.h he (a := none) (len := 0) (cap := 0) (l := 0) (h := 0) (lo := none) (hi := some (.int k 0)) (.inl ⟨rfl, rfl⟩) (.inr ⟨k, rfl⟩) (Nat.le_refl _) (Nat.le_refl _)
    simp [execOp, hv, e1, k1, k2]
theorem mapM_ev {α β : Type} {P : Program} {w : World} (g : α → Sem β) (h : α → β) : ∀ (l : List α), (∀ x, x ∈ l → (g x).run P w = .ok (h x) w ∧ ∀ es, (g x).events P w es = es) → ∀ es, (l.mapM g).events P w es = es
  | [], _, es => rfl
  | x :: l, hx, es => by
    obtain ⟨h1, h2⟩ := hx x (List.mem_cons_self ..)
    rw [List.mapM_cons]
    have hm := mapM_run (P := P) (w := w) g h l fun y hy => (hx y (List.mem_cons_of_mem _ hy)).1
    have he := mapM_ev g h l (fun y hy => hx y (List.mem_cons_of_mem _ hy))
    simp [h1, h2, hm, he]
theorem mapM_evA {α β : Type} {P : Program} {w : World} (g : α → Sem β) (h : α → β) (l : Array α) (hx : ∀ x, x ∈ l → (g x).run P w = .ok (h x) w ∧ ∀ es, (g x).events P w es = es) (es : Array Event) : (l.mapM g).events P w es = es := by
  obtain ⟨l⟩ := l
  have := mapM_ev (P := P) (w := w) g h l (fun x hx' => hx x (by simpa using hx')) es
  simp [this]
theorem ps_build {t : TypeId} {size bytes : Nat} {zv : Value} {ps : List (Nat × Operand)} {l' : List D} [hz : ZI X.P t size bytes zv] [hf : AllF X.P t] (hp : Parts s (FdP X.P t) ps (zv.cells.toList.map D.v) l') (hd : Nat.blt d X.nt = true) :
    PureE X H0 ⟨some d, .build t ps.toArray, ty, pos, aft, none⟩ s (s.put d (.ag size (nth l'))) :=
  .quiet (Sx.ps_build hp hd) fun I a w hs w' => by
    obtain ⟨i, h1, h2, h3, h4, h5, h6⟩ := hz.h
    obtain ⟨fs, g1, f, g2⟩ := hf.h
    have hm := mapM_runA (P := X.P) (w := w') (fun x : Field => do Pure.pure (x.offset, ← sizeOf x.type)) (fun x => (x.offset, f x)) fs (fun x hx => by simp [g2 x hx w'])
    have he := mapM_evA (P := X.P) (w := w') (fun x : Field => do Pure.pure (x.offset, ← sizeOf x.type)) (fun x => (x.offset, f x)) fs (fun x hx => ⟨by simp [g2 x hx w'], fun es => by simp [g2 x hx w']⟩) #[]
    have k1 : (zeroValue t).run X.P w' = .ok zv w' := by simp [zeroValue, typeInfo, h1, h2]
    simp only [execOp, Instr.build, Sem.events_bind, Sem.run_bind, k1, events_zeroValue, events_underlying, run_underlying g1, hm, he, Result.evThen]
    have fin : ∀ r : Option (Array Value), (match r with
      | some cells => (Pure.pure (Value.agg cells) : Sem Value)
      | _ => stuck "build: no such field, or a part of the wrong size").events X.P w' #[] = #[] := fun r => by cases r <;> rfl
    split
    · rw [Sem.events_pure]; exact fin _
    · exact fin _
end
end Y
def EvE (I F : Nat → Prop) (n n' : Nat) (e : Event) : Prop :=
  (∃ ad : Addr, e.loc = .cell ad ∧ ((e.write = false ∧ I ad.block) ∨ F ad.block ∨ (n ≤ ad.block ∧ ad.block < n'))) ∨ (∃ r, e.loc = .obj r ∧ e.sync = false ∧ (F r ∨ (n ≤ r ∧ r < n'))) ∨ e.loc = .mark .noRoom
def AtOnce (r : Result Next) : Prop := ∀ w', (∀ f args, r ≠ .ok (.enter f args) w') ∧ (∀ row args, r ≠ .ok (.row row args) w')
def EffE (X : Cx) (o : Oper) (s : St) (wr : List HL) (next : St → Prop) : Prop :=
  Eff X o s wr next ∧ ∀ I a w, Sat X I s a w → AtOnce ((execOp a.eval o).run X.P w) ∧ ∀ w' x, (execOp a.eval o).run X.P w = .ok x w' → ∀ e ∈ (execOp a.eval o).events X.P w #[], EvE I (fps s.heap) w.heap.size w'.heap.size e
theorem EffE.pure {X : Cx} {o : Oper} {s s' : St} {H1 : List HL} (hp : PureE X H1 o s s') (hH : ∀ b, fps H1 b → fps s.heap b) : EffE X o s [] (fun s2 => s2 = s') :=
  ⟨Eff.pure hp.1, fun I a w hs => by
    obtain ⟨v, h1, _⟩ := hp.1 I a w hs
    rw [h1 w fun _ _ => rfl]
    refine ⟨fun w' => ⟨fun f args h => (by cases h), fun row args h => (by cases h)⟩, fun w' x he e hm => ?_⟩
    obtain ⟨ad, k1, k2, k3⟩ := hp.2 I a w hs w (fun _ _ => rfl) e hm
    exact .inl ⟨ad, k1, k3.elim (fun h => .inl ⟨k2, h⟩) fun h => .inr (.inl (hH _ h))⟩⟩
theorem SatY.evs {Y : Cy} {I : Nat → Prop} {s : St} {a : Act} {w w' : World} {O : Nat → Prop} (h : SatY Y I s a w O) {e : Event} (he : EvE I (fps s.heap) w.heap.size w'.heap.size e) : EvOk Y.Im (grow O w w') e := by
  unfold EvOk
  rcases he with ⟨ad, h1, h2⟩ | ⟨r, h1, h2, h3⟩ | h1
  · rw [h1]
    rcases h2 with ⟨h2, h3⟩ | h2 | h2
    · exact (h.imO h3).elim (fun x => .inr ⟨h2, x⟩) fun x => .inl (.inl x)
    · exact .inl (.inl (h.own _ h2).1)
    · exact .inl (.inr h2)
  · rw [h1]; exact h3.elim (fun x => .inl (h.own _ x).1) .inr
  · rw [h1]; trivial
theorem opO_eff {Y : Cy} {o : Oper} {s : St} {wr : List HL} {next : St → Prop} {I : Nat → Prop} {a : Act} {w : World} {O : Nat → Prop} (hs : SatY Y I s a w O) (he : ∀ {w : World} {I : Nat → Prop} {tb : Tb Y.P I s w}, EffE ⟨Y.P, Y.nt, w, fps s.heap, I, [], tb⟩ o s wr next)
    {K : Act → World → (Nat → Prop) → Prop} (hK : ∀ w₁ a' w' s', SatY Y I s a w₁ O → Rely Y.Im O w w₁ → Same w₁ w' (fps wr) → next s' → SatY Y I s' a' w' (grow O w₁ w') → K a' w' (grow O w₁ w')) : opO Y.P Y.main Y.Im o K a w O := by
  intro w₁ h₁
  have hs1 := hs.rely h₁
  obtain ⟨he1, he2⟩ := @he w₁ I hs1.tab
  obtain ⟨hat, hev⟩ := he2 I a w₁ hs1.core
  have hw := he1 I a w₁ hs1.core (fun _ _ _ => False)
  unfold Oper.wp at hw
  generalize hr : (execOp a.eval o).run Y.P w₁ = r at hw hat hev
  cases r with
  | halt x w' => cases x <;> exact hw.elim
  | ok n w' =>
    have hev' : ∀ e ∈ (execOp a.eval o).events Y.P w₁ #[], EvOk Y.Im (grow O w₁ w') e := fun e hm => hs1.evs (hev w' n rfl e hm)
    cases n <;> first | exact hw.elim | skip
    · obtain ⟨hsame, s', hn, hs'⟩ := hw
      exact ⟨hs1.guar hs'.same hev', hK w₁ _ w' s' hs1 h₁ hsame hn (hs1.step hs')⟩
    · obtain ⟨hsame, s', hn, hs'⟩ := hw
      exact ⟨hs1.guar hs'.same hev', hK w₁ _ w' s' hs1 h₁ hsame hn (hs1.step hs')⟩
    · exact absurd rfl ((hat w').1 _ _)
    · rename_i dd
      obtain ⟨_, s', _, hs'⟩ := hw
      have := hs'.dfr
      have h2 : dd :: a.defers = [] := by
        cases hd : o.dst with
        | none => simp [Act.put, hd] at this
        | some d => simp [Act.put, hd] at this
      cases h2
    · exact absurd rfl ((hat w').2 _ _)
namespace Y
section
variable {Y : Cy} {fn : Func} {R : Value → World → (Nat → Prop) → Prop} {k : List It} {s s' : St} {all : Array Oper} {os : List Oper} {d : Option Tmp} {op : Op} {ty : TypeId} {pos : String} {aft : Array Edge}
theorem listO_cons {o : Oper} (hg : o.guard = none) {Q : PostO} {a : Act} {w : World} {O : Nat → Prop} (h : opO Y.P Y.main Y.Im o (listO Y.P Y.main Y.Im all Q os) a w O) : listO Y.P Y.main Y.Im all Q (o :: os) a w O := by
  show (if Region.wanted _ _ then _ else _)
  rw [if_pos (by unfold Region.wanted; rw [hg])]
  exact h
theorem GoO.effE {wr : List HL} {next : St → Prop} (he : ∀ {w : World} {I : Nat → Prop} {tb : Tb Y.P I s w}, EffE ⟨Y.P, Y.nt, w, fps s.heap, I, [], tb⟩ ⟨d, op, ty, pos, aft, none⟩ s wr next) (h : ∀ s', next s' → GoO Y fn R all os k s') :
    GoO Y fn R all (⟨d, op, ty, pos, aft, none⟩ :: os) k s :=
  ⟨fun I a w O hs => listO_cons rfl (opO_eff hs he fun w₁ a' w' s' _ _ _ hn hs' => (h s' hn).run I a' w' _ hs')⟩
theorem GoO.pure (hp : ∀ {w : World} {I : Nat → Prop} {tb : Tb Y.P I s w}, PureE ⟨Y.P, Y.nt, w, fps s.heap, I, [], tb⟩ s.heap ⟨d, op, ty, pos, aft, none⟩ s s') (h : GoO Y fn R all os k s') : GoO Y fn R all (⟨d, op, ty, pos, aft, none⟩ :: os) k s :=
  GoO.effE (fun {w I tb} => EffE.pure (@hp w I tb) fun b hb => hb) fun _ e => e ▸ h
end
end Y
end Go.Proofs.Ytkfmphlnpmemdaa.Sx
