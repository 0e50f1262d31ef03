import Derived.Test.YtkfmphlnpmemdaaQMbA
import Derived.Conc.SmallLaws
import Derived.Conc.EventLaws
set_option linter.unusedVariables false
set_option linter.unusedSimpArgs false
namespace Go.Proofs.Ytkfmphlnpmemdaa.Sx
open Go Go.Conc Go.ConcN Go.Conc.Lib
open Go.ConcR (KK wgBlock WgAt stA smA rd wr mk DC0)
noncomputable def mn0 (A : Nat → Prop) (Post : Value → World → Prop) : Mn := ⟨true, LJ 0 (Cj A 0 R0) (CLife (many Try.prog) Post)⟩
noncomputable def yR (A : Nat → Prop) (Post : Value → World → Prop) (w0 : World) (may I0 O0 : Nat → Prop) : Cy := ⟨Try.prog, 39, mn0 A Post, 4, w0, may, I0, O0, A⟩
section
variable {A I0 O0 I O may : Nat → Prop} {Post : Value → World → Prop} {w0 w w' : World} {s : St} {a : Act}
theorem SatY.put' {Y : Cy} (h : SatY Y I s a w O) {k : Nat} {d : D} {v : Value} (hk : Nat.blt k Y.nt = true) (hr : Rd I w d v) : SatY Y I (s.put k d) (a.put (some k) v) w O :=
  ⟨h.tab, Sat.put (X := Cx.here Y.P Y.nt I (s.put k d) w h.tab) (s := s) ⟨h.core.tsz, h.core.dfr, h.core.env, h.core.heap, h.core.sep, h.core.own, h.core.imm, h.core.i0, h.core.same⟩ (blt_lt hk) hr, h.own, h.imm, h.i0, h.sub, h.olt, h.keep, h.imk, h.os, h.tape, h.output, h.size⟩
theorem SatY.turn {Y : Cy} (h : SatY Y I s a w O) (hw : ∀ b, I b ∨ fps s.heap b → w'.heap[b]? = w.heap[b]?) (hs : w.heap.size ≤ w'.heap.size) {O' : Nat → Prop} (hO : ∀ b, O b → O' b) (hl : ∀ b, O' b → b < w'.heap.size) :
    SatY ⟨Y.P, Y.nt, Y.main, Y.f, w', fps s.heap, I, O', Y.Im⟩ I s a w' O' := by
  have tb : Tb Y.P I s w' := ⟨h.tab.1.mono (fun _ h => h) fun b hb => hw b (.inl hb), fun b hb => ⟨Nat.lt_of_lt_of_le (h.tab.2 b hb).1 hs, (h.tab.2 b hb).2⟩⟩
  exact ⟨tb, ⟨h.core.tsz, h.core.dfr, fun k d hk => (h.core.env k d hk).mono (fun _ h => h) fun b hb => hw b (.inl hb), fun x hx => (h.core.heap x hx).mono (fun _ h => h) (fun b hb => hw b (.inl hb)) fun b hb => hw b (.inr ⟨x, hx, hb⟩), h.core.sep, fun b hb => ⟨(h.core.own b hb).1, .inr hb, Nat.lt_of_lt_of_le (h.core.own b hb).2.2 hs⟩,
    fun b hb => ⟨Nat.lt_of_lt_of_le (h.tab.2 b hb).1 hs, .inl hb⟩, fun _ hb => hb, Same.refl _ _⟩, fun b hb => ⟨hO b (h.own b hb).1, .inl hb⟩, fun b hb => .inl hb, fun b hb => ⟨hb, (h.imO hb).imp id (hO b)⟩, fun _ hb => hb, hl, fun _ _ _ => rfl, fun _ _ => rfl, rfl, rfl, rfl, Nat.le_refl _⟩
structure Bs (O0 I0 : Nat → Prop) (w0 : World) (s : St) (w : World) (O : Nat → Prop) : Prop where
  sub : ∀ b, O0 b → O b ∧ ¬ fps s.heap b
  keep : ∀ b, O0 b → w.heap[b]? = w0.heap[b]?
  imk : ∀ b, I0 b → w.heap[b]? = w0.heap[b]?
  os : w.os = w0.os
  tape : w.tape = w0.tape
  output : w.output = w0.output
  size : w0.heap.size ≤ w.heap.size
structure RunS (A : Nat → Prop) (Post : Value → World → Prop) (O0 I0 : Nat → Prop) (w0 : World) (Ch N : Nat) (buf : Array Value) (cl : Bool) (sn : Nat) (I : Nat → Prop) (s : St) (a : Act) (w : World) (O : Nat → Prop) : Prop where
  sat : SatY (yR A Post w (fps s.heap) I O) I s a w O
  base : Bs O0 I0 w0 s w O
  i0 : ∀ b, I0 b → I b
  im : ∀ b, I b → I0 b ∨ (O b ∧ ¬ O0 b)
  ch : w.heap[Ch]? = some (.chan N buf cl sn 0 false)
  chO : O Ch
  ch0 : ¬ O0 Ch
  chf : ¬ fps s.heap Ch
  chI : ¬ I Ch
variable {Ch N sn : Nat} {buf : Array Value} {cl : Bool}
theorem RunS.rely (h : RunS A Post O0 I0 w0 Ch N buf cl sn I s a w O) (hr : Rely A O w w') : RunS A Post O0 I0 w0 Ch N buf cl sn I s a w' O := by
  have hs := h.sat.rely hr
  have hb : ∀ b, A b ∨ O b → b < w.heap.size → w'.heap[b]? = w.heap[b]? := fun b hb hl => hr.block b hl hb
  have hO : ∀ b, O b → w'.heap[b]? = w.heap[b]? := fun b h' => hb b (.inr h') (h.sat.olt b h')
  refine ⟨hs.turn (fun _ _ => rfl) (Nat.le_refl _) (fun _ h => h) hs.olt, ⟨h.base.sub, fun b hb' => (hO b (h.base.sub b hb').1).trans (h.base.keep b hb'), fun b hb' => (hb b (h.sat.imO (h.i0 b hb')) (h.sat.tab.2 b (h.i0 b hb')).1).trans (h.base.imk b hb'), hr.os.trans h.base.os, hr.tape.trans h.base.tape, hr.output.trans h.base.output, Nat.le_trans h.base.size hr.size⟩, h.i0, h.im, (hO Ch h.chO).trans h.ch, h.chO, h.ch0, h.chf, h.chI⟩
theorem RunS.then (h : RunS A Post O0 I0 w0 Ch N buf cl sn I s a w O) {I' O' : Nat → Prop} {s' : St} {a' : Act} (hs : SatY (yR A Post w (fps s.heap) I O) I' s' a' w' O') : RunS A Post O0 I0 w0 Ch N buf cl sn I' s' a' w' O' := by
  have h0 : ∀ b, O b → ¬ fps s.heap b → ¬ fps s'.heap b := fun b hb hn hf => (hs.own b hf).2.elim hn fun h => h hb
  refine ⟨hs.turn (fun _ _ => rfl) (Nat.le_refl _) (fun _ h => h) hs.olt, ⟨fun b hb => ⟨hs.sub b (h.base.sub b hb).1, h0 b (h.base.sub b hb).1 (h.base.sub b hb).2⟩, fun b hb => (hs.keep b (h.base.sub b hb).1 (h.base.sub b hb).2).trans (h.base.keep b hb), fun b hb => (hs.imk b (h.i0 b hb)).trans (h.base.imk b hb), hs.os.trans h.base.os, hs.tape.trans h.base.tape, hs.output.trans h.base.output, Nat.le_trans h.base.size hs.size⟩,
    fun b hb => (hs.i0 b (h.i0 b hb)).1, fun b hb => ?_, (hs.keep Ch h.chO h.chf).trans h.ch, hs.sub Ch h.chO, h.ch0, h0 Ch h.chO h.chf, fun hI => ?_⟩
  · rcases hs.imm b hb with k | ⟨k1, k2⟩
    · exact (h.im b k).imp id fun ⟨x, y⟩ => ⟨hs.sub b x, y⟩
    · exact .inr ⟨k1, fun h' => k2 (h.base.sub b h').1⟩
  · rcases hs.imm Ch hI with k | ⟨_, k⟩
    · exact h.chI k
    · exact k h.chO
theorem RunS.turn (h : RunS A Post O0 I0 w0 Ch N buf cl sn I s a w O) {buf' : Array Value} {cl' : Bool} {sn' : Nat} (hb : But Ch w w') (hc : w'.heap[Ch]? = some (.chan N buf' cl' sn' 0 false)) : RunS A Post O0 I0 w0 Ch N buf' cl' sn' I s a w' O := by
  have hne : ∀ b, O0 b → b ≠ Ch := fun b hb e => h.ch0 (e ▸ hb)
  refine ⟨h.sat.turn (fun b hb' => hb.block b fun e => ?_) (Nat.le_of_eq hb.size.symm) (fun _ h => h) fun b hb' => by rw [hb.size]; exact h.sat.olt b hb', ⟨h.base.sub, fun b hb' => (hb.block b (hne b hb')).trans (h.base.keep b hb'), fun b hb' => (hb.block b fun e => h.chI (e ▸ h.i0 b hb')).trans (h.base.imk b hb'), hb.os.trans h.base.os, hb.tape.trans h.base.tape, hb.output.trans h.base.output, by rw [hb.size]; exact h.base.size⟩,
    h.i0, h.im, hc, h.chO, h.ch0, h.chf, h.chI⟩
  subst e
  exact hb'.elim h.chI h.chf
theorem RunS.put (h : RunS A Post O0 I0 w0 Ch N buf cl sn I s a w O) {k : Nat} {d : D} {v : Value} (hk : Nat.blt k 39 = true) (hr : Rd I w d v) : RunS A Post O0 I0 w0 Ch N buf cl sn I (s.put k d) (a.put (some k) v) w O :=
  ⟨h.sat.put' hk hr, ⟨h.base.sub, h.base.keep, h.base.imk, h.base.os, h.base.tape, h.base.output, h.base.size⟩, h.i0, h.im, h.ch, h.chO, h.ch0, h.chf, h.chI⟩
theorem RunS.piece (h : RunS A Post O0 I0 w0 Ch N buf cl sn I s a w O) {c : Code} {Jt : St → Prop} (hc : Y.GoC (yR A Post w (fps s.heap) I O) Try.f4 (fun _ _ _ => False) c [.again Jt] s) {b : Frame} {k : List Item} {cs : List Frame} (hb : b.fn = 4) (hk : b.kind ≠ .early)
    (hn : ∀ a' w' O' s' I', Jt s' → RunS A Post O0 I0 w0 Ch N buf cl sn I' s' a' w' O' → GoesO Try.prog true A (mn0 A Post).Stop O' (G (b.at a' k) cs) w') : GoesO Try.prog true A (mn0 A Post).Stop O (G (b.at a (.code c :: k)) cs) w :=
  Sx.piece (y := yR A Post w (fps s.heap) I O) hc h.sat hb hk fun a' w' O' s' I' h1 h2 => hn a' w' O' s' I' h1 (h.then h2)
theorem RunS.pieceO (h : RunS A Post O0 I0 w0 Ch N buf cl sn I s a w O) {all : Array Oper} {l : List Oper} {k0 : Nat} {Jt : St → Prop} (hc : Y.GoO (yR A Post w (fps s.heap) I O) Try.f4 (fun _ _ _ => False) all l [.again Jt] s) (hl : ∀ j, j < l.length → l[j]? = all[k0 + j]?) {b : Frame} {k : List Item} {cs : List Frame} (hb : b.fn = 4) (hk : b.kind ≠ .early)
    (hn : ∀ a' w' O' s' I', Jt s' → RunS A Post O0 I0 w0 Ch N buf cl sn I' s' a' w' O' → GoesO Try.prog true A (mn0 A Post).Stop O' (G (b.at a' k) cs) w') : GoesO Try.prog true A (mn0 A Post).Stop O (G (b.at a (.inRegion all (List.range' k0 l.length) :: k)) cs) w :=
  Sx.pieceO (y := yR A Post w (fps s.heap) I O) hc hl h.sat hb hk fun a' w' O' s' I' h1 h2 => hn a' w' O' s' I' h1 (h.then h2)
end
theorem grow_same {O : Nat → Prop} {w w' : World} (h : w'.heap.size = w.heap.size) : grow O w w' = O := funext fun b => propext ⟨fun hb => hb.elim id fun hb => by omega, .inl⟩
section
variable {A I0 O0 I O : Nat → Prop} {Post : Value → World → Prop} {w0 w : World} {s : St} {a : Act} {all : Array Oper} {i : Nat} {rest : List Nat} {b : Frame} {k : List Item} {cs : List Frame} {pos : String} {aft : Array Edge} {N Ch sn : Nat} {buf : Array Value}
theorem chan_run {a : Act} {w : World} (h : a.eval (.tmp 20) = .int .i64 (N : Int)) (hN : N ≤ 1000000000000) :
    (execOp a.eval ⟨some 21, .makeChan 42 (.tmp 20), 42, pos, aft, none⟩).run Try.prog w = .ok (.value (.chan (some w.heap.size))) (w.alloc (.chan N #[] false 0 0 false)) ∧ (execOp a.eval ⟨some 21, .makeChan 42 (.tmp 20), 42, pos, aft, none⟩).events Try.prog w #[] = #[] := by
  obtain ⟨i, h1, h2, h3, h4, h5, h6⟩ := (inferInstance : ZI Try.prog 3 1 8 (.int .i64 0)).h
  have hr := run_makeChan (w := w) Try.underlying42 h1 .i64 N (by omega) (by rw [h4]; omega)
  have he := events_makeChan (w := w) Try.underlying42 h1 .i64 N (by omega) (by rw [h4]; omega) #[]
  constructor
  · simp [execOp, h, hr]
  · simp [execOp, h, he]
theorem chan_step (ho : all[i]? = some ⟨some 21, .makeChan 42 (.tmp 20), 42, pos, aft, none⟩) (hk : b.kind ≠ .early) (hs : SatY (yR A Post w0 (fps []) I0 O0) I s a w O) (h20 : look s.env 20 = some (.v (.int .i64 (N : Int)))) (hN : N ≤ 1000000000000)
    (hn : ∀ w' O' Ch a', RunS A Post O0 I0 w0 Ch N #[] false 0 I (s.put 21 (.v (.chan (some Ch)))) a' w' O' → GoesO Try.prog true A (mn0 A Post).Stop O' (G (b.at a' (.inRegion all rest :: k)) cs) w') :
    GoesO Try.prog true A (mn0 A Post).Stop O (G (b.at a (.inRegion all (i :: rest) :: k)) cs) w := by
  refine .one rfl fun w₁ h₁ => ?_
  have hs1 := hs.rely h₁
  have hx : a.eval (.tmp 20) = .int .i64 (N : Int) := hs1.core.ev (x := .tmp 20) h20
  obtain ⟨hr, hev⟩ := chan_run (pos := pos) (aft := aft) (w := w₁) hx hN
  have nf : ∀ b, ¬ fps [] b := fun b ⟨z, hz, _⟩ => by simp at hz
  have hsz : (w₁.alloc (.chan N #[] false 0 0 false)).heap.size = w₁.heap.size + 1 := Array.size_push _
  have hold : ∀ b, b < w₁.heap.size → (w₁.alloc (.chan N #[] false 0 0 false)).heap[b]? = w₁.heap[b]? := fun b hb => by
    show (w₁.heap.push _)[b]? = _
    rw [Array.getElem?_push_lt hb, Array.getElem?_eq_getElem hb]
  refine ⟨_, w₁.alloc (.chan N #[] false 0 0 false), #[], by rw [stepG_value ho rfl hk hr, listed_nil hev], ⟨rfl, rfl, rfl, by rw [hsz]; omega, fun b hb _ => hold b hb, fun e he => absurd he (Array.not_mem_empty _)⟩, hn _ _ w₁.heap.size _ ?_⟩
  have hF : ∀ b, I b ∨ fps s.heap b → b < w₁.heap.size := fun b hb => hb.elim (fun h => (hs1.tab.2 b h).1) fun h => (hs1.core.own b h).2.2
  have ht := hs1.turn (w' := w₁.alloc (.chan N #[] false 0 0 false)) (O' := grow O w₁ (w₁.alloc (.chan N #[] false 0 0 false))) (fun b hb => hold b (hF b hb)) (by rw [hsz]; omega) (fun b hb => .inl hb) fun b hb => by
    rcases hb with hb | hb
    · have := hs1.olt b hb; rw [hsz]; omega
    · exact hb.2
  refine RunS.put ⟨ht, ⟨fun b hb => ⟨.inl (hs1.sub b hb), fun hf => (hs1.own b hf).2.elim (nf b) fun h => h hb⟩, fun b hb => (hold b (hs1.olt b (hs1.sub b hb))).trans (hs1.keep b hb (nf b)), fun b hb => (hold b (hs1.tab.2 b (hs1.i0 b hb).1).1).trans (hs1.imk b hb), hs1.os, hs1.tape, hs1.output, Nat.le_trans hs1.size (by rw [hsz]; omega)⟩,
    fun b hb => (hs1.i0 b hb).1, fun b hb => (hs1.imm b hb).imp id fun ⟨x, y⟩ => ⟨.inl x, y⟩, ?_, .inr ⟨Nat.le_refl _, by rw [hsz]; omega⟩, fun h => ?_, fun h => ?_, fun h => ?_⟩ rfl rfl
  · show (w₁.heap.push _)[w₁.heap.size]? = _
    exact Array.getElem?_push_size
  · exact absurd (hs1.olt _ (hs1.sub _ h)) (Nat.lt_irrefl _)
  · exact absurd (hF _ (.inr h)) (Nat.lt_irrefl _)
  · exact absurd (hF _ (.inl h)) (Nat.lt_irrefl _)
theorem send_run {a : Act} {w : World} {x : Value} (h : a.eval (.tmp 27) = .chan (some Ch)) (h' : a.eval (.tmp 28) = x) :
    (execOp a.eval ⟨none, .send (.tmp 27) (.tmp 28), 0, pos, aft, none⟩).run Try.prog w = .ok (.comm #[scase Ch x (.tuple #[])] true .send) w ∧ (execOp a.eval ⟨none, .send (.tmp 27) (.tmp 28), 0, pos, aft, none⟩).events Try.prog w #[] = #[] := by
  have h1 : a.tmps[27]?.getD undef = .chan (some Ch) := by simpa [Act.eval] using h
  have h2 : a.tmps[28]?.getD undef = x := by simpa [Act.eval] using h'
  constructor
  · simp [execOp, scase, h1, h2, go_sem]
  · simp [execOp, go_sem]
theorem close_run {a : Act} {w : World} {r rc : Nat} {tm : Bool} (h : a.eval (.tmp 30) = .chan (some Ch)) (hc : w.heap[Ch]? = some (.chan N buf false r rc tm)) :
    (execOp a.eval ⟨none, .call { callee := .builtin .close, args := #[.tmp 30], argTypes := #[42] }, 0, pos, aft, none⟩).run Try.prog w = .ok (.value (.tuple #[])) { w with heap := w.heap.setIfInBounds Ch (.chan N buf true r rc tm) } ∧
      (execOp a.eval ⟨none, .call { callee := .builtin .close, args := #[.tmp 30], argTypes := #[42] }, 0, pos, aft, none⟩).events Try.prog w #[] = #[⟨.obj Ch, false, true⟩, ⟨.obj Ch, true, true⟩] := by
  have h1 : a.tmps[30]?.getD undef = .chan (some Ch) := by simpa [Act.eval] using h
  have hr := run_close_open (P := Try.prog) #[42] 0 hc
  have he := events_close_open (P := Try.prog) (es := #[]) #[42] 0 hc
  constructor
  · simp [execOp, Act.eval, h1, hr, go_sem]
  · simp [execOp, Act.eval, h1, he, go_sem]
theorem send_step (ho : all[i]? = some ⟨none, .send (.tmp 27) (.tmp 28), 0, pos, aft, none⟩) (hk : b.kind ≠ .early) (h : RunS A Post O0 I0 w0 Ch N buf false sn I s a w O) (h27 : look s.env 27 = some (.v (.chan (some Ch)))) {x : Value} (h28 : look s.env 28 = some (.v x)) (hroom : buf.size < N)
    (hn : ∀ w' O', RunS A Post O0 I0 w0 Ch N (buf.push x) false (sn + 1) I s a w' O' → GoesO Try.prog true A (mn0 A Post).Stop O' (G (b.at a (.inRegion all rest :: k)) cs) w') :
    GoesO Try.prog true A (mn0 A Post).Stop O (G (b.at a (.inRegion all (i :: rest) :: k)) cs) w := by
  refine .stop fun w₁ h₁ σ ho' hJ => CLife.mk rfl fun σ₂ w₂ he ⟨t, hok⟩ => .inl ?_
  obtain ⟨hJ2, hr2, hown2⟩ := hJ.env rs0 he
  have h2 := (h.rely h₁).rely (ho' ▸ hr2)
  have hO2 : σ₂.own 0 = O := hown2.trans ho'
  obtain ⟨hr, hev⟩ := send_run (pos := pos) (aft := aft) (w := w₂) (h2.sat.core.ev (x := .tmp 27) h27) (h2.sat.core.ev (x := .tmp 28) h28)
  have fin : ∀ v, (b.at a (.inRegion all (i :: rest) :: k)).finish v = b.at a (.inRegion all rest :: k) := fun v => by rw [Frame.finish_at, ho]; rfl
  have hst : stepG Try.prog (0 == 0) (G (b.at a (.inRegion all (i :: rest) :: k)) cs) w₂ = .comm (G (b.at a (.inRegion all (i :: rest) :: k)) cs) #[scase Ch x (.tuple #[])] true .send w₂ #[] := by
    rw [stepG_comm ho rfl hk hr]
    unfold listed
    rw [hev, seen_none]
  have hm := Moves.send hst h2.ch hroom
  rw [ofEvents_none, Array.empty_append] at hm
  have hlt : Ch < w₂.heap.size := h2.sat.olt Ch h2.chO
  have hbut : But Ch w₂ (w₂.setChan Ch N (buf.push x) false (sn + 1) 0 false) := setChan_but
  have hS := h2.turn (w' := w₂.setChan Ch N (buf.push x) false (sn + 1) 0 false) hbut (setChan_at hlt)
  obtain ⟨k1, k2, k3⟩ := hJ2.own (w' := w₂.setChan Ch N (buf.push x) false (sn + 1) 0 false) (u := #[{ g := 0, fn := (G (b.at a (.inRegion all (i :: rest) :: k)) cs).frame.fn, pos := (G (b.at a (.inRegion all (i :: rest) :: k)) cs).frame.place, act := .send Ch sn }, { g := 0, fn := (G (b.at a (.inRegion all (i :: rest) :: k)) cs).frame.fn, pos := (G (b.at a (.inRegion all (i :: rest) :: k)) cs).frame.place, act := .sendDone Ch sn }]) rs0 hok
    ⟨hbut.os, hbut.tape, hbut.output, Nat.le_of_eq hbut.size.symm, fun b hb hn => hbut.block b fun e => hn (by rw [hO2, e]; exact h2.chO)⟩ fun op hop' => by
      simp at hop'
      rcases hop' with rfl | rfl <;> exact ⟨rfl, fun x hx => (by cases hx), fun x hx => (by cases hx), fun m hm => (by cases hm)⟩
  rw [grow_same hbut.size, hO2] at k2
  refine ⟨_, _, _, _, _, hm, k1, ?_⟩
  have := cWalk rs0 (hn _ _ hS) k2 k3
  unfold Goroutine.finishComm
  rw [show (G (b.at a (.inRegion all (i :: rest) :: k)) cs).frame = b.at a (.inRegion all (i :: rest) :: k) from rfl, fin]
  exact this
theorem close_step (ho : all[i]? = some ⟨none, .call { callee := .builtin .close, args := #[.tmp 30], argTypes := #[42] }, 0, pos, aft, none⟩) (hk : b.kind ≠ .early) (h : RunS A Post O0 I0 w0 Ch N buf false sn I s a w O) (h30 : look s.env 30 = some (.v (.chan (some Ch))))
    (hn : ∀ w' O', RunS A Post O0 I0 w0 Ch N buf true sn I s a w' O' → GoesO Try.prog true A (mn0 A Post).Stop O' (G (b.at a (.inRegion all rest :: k)) cs) w') :
    GoesO Try.prog true A (mn0 A Post).Stop O (G (b.at a (.inRegion all (i :: rest) :: k)) cs) w := by
  refine .one rfl fun w₁ h₁ => ?_
  have h2 := h.rely h₁
  obtain ⟨hr, hev⟩ := close_run (pos := pos) (aft := aft) (h2.sat.core.ev (x := .tmp 30) h30) h2.ch
  have hlt : Ch < w₁.heap.size := h2.sat.olt Ch h2.chO
  have hbut : But Ch w₁ { w₁ with heap := w₁.heap.setIfInBounds Ch (.chan N buf true sn 0 false) } := ⟨rfl, rfl, rfl, by simp, fun b hb => by
    show (w₁.heap.setIfInBounds Ch _)[b]? = _
    rw [Array.getElem?_setIfInBounds_ne (Ne.symm hb)]⟩
  have hg : Guar A O w₁ { w₁ with heap := w₁.heap.setIfInBounds Ch (.chan N buf true sn 0 false) } #[⟨.obj Ch, false, true⟩, ⟨.obj Ch, true, true⟩] := ⟨hbut.os, hbut.tape, hbut.output, Nat.le_of_eq hbut.size.symm, fun b hb hn => hbut.block b fun e => hn (e ▸ h2.chO), fun e he => by
    simp at he
    rcases he with rfl | rfl <;> exact .inl h2.chO⟩
  refine ⟨_, _, _, stepG_value ho rfl hk hr, ?_, ?_⟩
  · unfold listed
    rw [hev]
    exact hg.seen _ _
  · rw [grow_same hbut.size]
    exact hn _ _ (h2.turn hbut (by
      show (w₁.heap.setIfInBounds Ch _)[Ch]? = _
      simp [hlt]))
end
section
variable {A I0 O0 I O : Nat → Prop} {Post : Value → World → Prop} {w0 w : World} {s : St} {a : Act} {all : Array Oper} {i : Nat} {rest : List Nat} {b : Frame} {k : List Item} {cs : List Frame} {pos : String} {aft : Array Edge} {N Ch sn : Nat} {jobs : List (List Deed)}
theorem wg_run {a : Act} {w : World} : (execOp a.eval ⟨some 9, .alloc 52, 0, pos, aft, none⟩).run Try.prog w = .ok (.value (.pointer (some ⟨w.heap.size, 0, none⟩))) (w.alloc (wgBlock 52 0 0)) ∧ (execOp a.eval ⟨some 9, .alloc 52, 0, pos, aft, none⟩).events Try.prog w #[] = #[] := by
  have h : (Try.prog.info? 52).bind (fun i => i.zero.map Value.cells) = some #[.int .u64 0, .int .u32 0] := by kernel_rfl
  cases hi : Try.prog.info? 52 with
  | none => simp [hi] at h
  | some i =>
    simp only [hi, Option.bind_some] at h
    cases hz : i.zero with
    | none => simp [hz] at h
    | some z =>
      simp only [hz, Option.map_some, Option.some.injEq] at h
      constructor
      · simp [execOp, Instr.alloc, zeroValue, typeInfo, hi, hz, newVar, newRow, h, wgBlock]
      · simp [execOp, Instr.alloc, zeroValue, typeInfo, hi, hz, newVar, newRow]
structure PhS (A : Nat → Prop) (Post : Value → World → Prop) (O0 I0 : Nat → Prop) (w0 : World) (Ch N sn : Nat) (I : Nat → Prop) (s : St) (a : Act) (O : Nat → Prop) (jobs : List (List Deed)) (βr : BK) (b3 b6 b7 : Nat) (c : Ph0) (L O' : Nat → Prop) (ws : World) : Prop where
  run : RunS A Post O0 I0 w0 Ch N (queue 0 N) true sn I s a c.w0 O
  hN : jobs.length = c.N
  post : c.post = postW jobs
  row : c.β = βr
  Wg : c.Wg = c.w0.heap.size
  chc : c.Ch = Ch
  old : ∀ b, b < c.w0.heap.size → ws.heap[b]? = c.w0.heap[b]?
  os : ws.os = c.w0.os
  tape : ws.tape = c.w0.tape
  output : ws.output = c.w0.output
  size : c.w0.heap.size ≤ ws.heap.size
  alt : ∀ b, A b → b < c.w0.heap.size
  lt : ∀ b, A b ∨ L b → b < c.w0.heap.size
  len : ∀ b, L b ↔ (I b ∧ O b) ∨ b = b3 ∨ b = b6 ∨ b = b7
  own : ∀ b, O b → L b ∨ O' b ∨ b = Ch ∨ (b = βr.b ∧ 0 < βr.s)
  ow' : ∀ b, O' b → O b ∧ ¬ L b
theorem open_step {βr β3 β6 β7 : BK} {z : Nat → Value} (ho : all[i]? = some ⟨some 9, .alloc 52, 0, pos, aft, none⟩) (hk : b.kind ≠ .early) (hjN : jobs.length = N) (h : RunS A Post O0 I0 w0 Ch N (queue 0 N) true sn I s a w O)
    (hH : s.heap = [.one β7 42 1 (st1 fun _ => .v (.chan (some Ch))), .one β6 23 1 (st1 fun _ => .own βr 6 0 N), .one βr 37 6 ⟨N, fun _ f => .v (z f)⟩, .one β3 22 1 (st1 fun _ => slD jobs)])
    (next : ∀ c L O' ws σ w, PhS A Post O0 I0 w0 Ch N sn I s a O jobs βr β3.b β6.b β7.b c L O' ws → Cw A O' ws 0 (Rp c .opn c.f0 L 0) σ w → CLife (many Try.prog) Post σ (G (b.at (a.put (some 9) (.pointer (some ⟨c.Wg, 0, none⟩))) (.inRegion all rest :: k)) cs) w) :
    GoesO Try.prog true A (mn0 A Post).Stop O (G (b.at a (.inRegion all (i :: rest) :: k)) cs) w := by
  refine .stop fun w₁ h₁ σ ho' hJ => CLife.mk rfl fun σ₂ w₂ he ⟨t, hok⟩ => .inl ?_
  obtain ⟨hJ2, hr2, hown2⟩ := hJ.env rs0 he
  have h2 := (h.rely h₁).rely (ho' ▸ hr2)
  have hO2 : σ₂.own 0 = O := hown2.trans ho'
  obtain ⟨hrun, hev⟩ := wg_run (pos := pos) (aft := aft) (a := a) (w := w₂)
  have fin : stepG Try.prog (0 == 0) (G (b.at a (.inRegion all (i :: rest) :: k)) cs) w₂ = .go (G (b.at (a.put (some 9) (.pointer (some ⟨w₂.heap.size, 0, none⟩))) (.inRegion all rest :: k)) cs) (w₂.alloc (wgBlock 52 0 0)) #[] := by
    rw [stepG_value ho rfl hk hrun, listed_nil hev]
  have kO : ∀ b, O b ↔ σ₂.kd b = .own 0 := fun b => by rw [← hO2]; exact Iff.rfl
  have fO : ∀ b, fps s.heap b → O b := fun b hb => (h2.sat.own b hb).1
  have hB : ∀ x, x ∈ s.heap → x.ok I w₂ := h2.sat.core.heap
  rw [hH] at hB fO
  have hsep := h2.sat.core.sep
  rw [hH] at hsep
  have ok3 : BOk I w₂ β3 22 1 (st1 fun _ => slD jobs) := hB (.one β3 22 1 (st1 fun _ => slD jobs)) (by simp)
  have ok6 : BOk I w₂ β6 23 1 (st1 fun _ => .own βr 6 0 N) := hB (.one β6 23 1 (st1 fun _ => .own βr 6 0 N)) (by simp)
  have ok7 : BOk I w₂ β7 42 1 (st1 fun _ => .v (.chan (some Ch))) := hB (.one β7 42 1 (st1 fun _ => .v (.chan (some Ch)))) (by simp)
  have okr : BOk I w₂ βr 37 6 ⟨N, fun _ f => .v (z f)⟩ := hB (.one βr 37 6 ⟨N, fun _ f => .v (z f)⟩) (by simp)
  have p3 : 0 < β3.s := ok3.1
  have p6 : 0 < β6.s := ok6.1
  have p7 : 0 < β7.s := ok7.1
  have fp3 : fps s.heap β3.b := by rw [hH]; exact ⟨.one β3 22 1 (st1 fun _ => slD jobs), by simp, p3, rfl⟩
  have fp6 : fps s.heap β6.b := by rw [hH]; exact ⟨.one β6 23 1 (st1 fun _ => .own βr 6 0 N), by simp, p6, rfl⟩
  have fp7 : fps s.heap β7.b := by rw [hH]; exact ⟨.one β7 42 1 (st1 fun _ => .v (.chan (some Ch))), by simp, p7, rfl⟩
  have fpr : 0 < βr.s → fps s.heap βr.b := fun h0 => by rw [hH]; exact ⟨.one βr 37 6 ⟨N, fun _ f => .v (z f)⟩, by simp, h0, rfl⟩
  have fO : ∀ b, fps s.heap b → O b := fun b hb => (h2.sat.own b hb).1
  have sep : 0 < βr.s → βr.b ≠ β3.b ∧ βr.b ≠ β6.b ∧ βr.b ≠ β7.b := fun h0 => by
    unfold Sep at hsep
    simp only [List.pairwise_cons, List.mem_cons, List.not_mem_nil, or_false, forall_eq_or_imp, forall_eq] at hsep
    obtain ⟨⟨_, q1, _⟩, ⟨q2, _⟩, q3, _⟩ := hsep
    exact ⟨fun e => q3 _ ⟨h0, rfl⟩ ⟨p3, e⟩, fun e => q2 _ ⟨p6, rfl⟩ ⟨h0, e.symm⟩, fun e => q1 _ ⟨p7, rfl⟩ ⟨h0, e.symm⟩⟩
  have hold : ∀ b, b < w₂.heap.size → (w₂.alloc (wgBlock 52 0 0)).heap[b]? = w₂.heap[b]? := fun b hb => by
    show (w₂.heap.push _)[b]? = _
    rw [Array.getElem?_push_lt hb, Array.getElem?_eq_getElem hb]
  obtain ⟨L, hL⟩ : ∃ L : Nat → Prop, L = fun b => (I b ∧ O b) ∨ b = β3.b ∨ b = β6.b ∨ b = β7.b := ⟨_, rfl⟩
  have LO : ∀ b, L b → O b := fun b hb => by
    rw [hL] at hb
    rcases hb with hb | rfl | rfl | rfl
    · exact hb.2
    · exact fO _ fp3
    · exact fO _ fp6
    · exact fO _ fp7
  have Lf : ∀ b, ¬ I b → b ≠ β3.b → b ≠ β6.b → b ≠ β7.b → ¬ L b := fun b h1 h3 h6 h7 hb => by
    rw [hL] at hb
    rcases hb with hb | hb | hb | hb
    · exact h1 hb.1
    · exact h3 hb
    · exact h6 hb
    · exact h7 hb
  have chL : ¬ L Ch := Lf Ch h2.chI (fun e => h2.chf (e ▸ fp3)) (fun e => h2.chf (e ▸ fp6)) fun e => h2.chf (e ▸ fp7)
  have rL : 0 < βr.s → ¬ L βr.b := fun h0 => Lf βr.b (fun hI => (h2.sat.tab.2 _ hI).2 (fpr h0)) (sep h0).1 (sep h0).2.1 (sep h0).2.2
  obtain ⟨c, hc⟩ : ∃ c : Ph0, c = ⟨w₂.heap.size, Ch, βr, N, σ₂.n, w₂, postW jobs⟩ := ⟨_, rfl⟩
  have op : Opens σ₂ w₂ (w₂.alloc (wgBlock 52 0 0)) c L (fun _ f => .v (z f)) := by
    subst hc
    exact ⟨hJ2.r, rfl, rfl, rfl, rfl, rfl, rfl, Array.size_push _, hold, Array.getElem?_push_size, fun b hb => (kO b).1 (LO b hb), (kO _).1 h2.chO, chL, fun h0 => (kO _).1 (fO _ (fpr h0)), rL, fun h0 (e : βr.b = Ch) => h2.chf (e ▸ fpr h0), ⟨_, _, h2.ch⟩,
      okr.1, fun h0 => let ⟨cs, q1, q2, q3⟩ := okr.2 h0; ⟨cs, q1, q2, fun e he f hf => let ⟨u, q4, q5, q6⟩ := q3 e he f hf; ⟨u, q4, q5, q6⟩⟩⟩
  have ltO : ∀ b, O b → b < w₂.heap.size := h2.sat.olt
  have ltA : ∀ b, A b → b < w₂.heap.size := fun b hb => hok.lt (by rw [(hJ2.im b).1 hb]; simp)
  have AO : ∀ b, A b → ¬ O b := fun b hb h => by rw [kO, (hJ2.im b).1 hb] at h; cases h
  have hWg : c.Wg = w₂.heap.size := by rw [hc]
  have hCh : c.Ch = Ch := by rw [hc]
  have hβ : c.β = βr := by rw [hc]
  have key := fun b => opened_kd (σ := σ₂) (c := c) (L := L) (get := fun _ f => D.v (z f)) b
  refine ⟨_, _, _, _, _, Moves.go fin, Ac.opens op (opOk_ofEvents (es := #[]) fun e he => absurd he (Array.not_mem_empty _)), ?_⟩
  rw [← hWg]
  refine next c L ((σ₂.opened c L fun _ f => .v (z f)).own 0) _ _ _ ⟨?_, ?_, ?_, hβ, ?_, hCh, ?_, ?_, ?_, ?_, ?_, ?_, ?_, fun b => by rw [hL], fun b hb => ?_, fun b hb => ?_⟩ ⟨⟨hJ2.df, fun b => ⟨fun hb => ?_, fun hb => ?_⟩, ⟨⟨_, rfl, rfl, rfl⟩, by rw [hc]; rfl, fun b hb => ?_, ?_, Nat.le_refl _⟩⟩, rfl, Rely.refl _ _ _⟩
  · rw [hc]; exact h2
  · rw [hc]; exact hjN
  · rw [hc]
  · rw [hc]
  · rw [hc]; exact hold
  · rw [hc]; rfl
  · rw [hc]; rfl
  · rw [hc]; rfl
  · rw [hc]; show w₂.heap.size ≤ (w₂.heap.push _).size; simp
  · rw [hc]; exact ltA
  · rw [hc]; exact fun b hb => hb.elim (ltA b) fun h => ltO b (LO b h)
  · rcases key b with ⟨q, _⟩ | ⟨_, q, _⟩ | ⟨_, _, q, q', _⟩ | ⟨_, _, _, q, _⟩ | ⟨_, _, _, _, q⟩
    · exact absurd (ltO b hb) (by omega)
    · exact .inr (.inr (.inl (q.trans hCh)))
    · rw [hβ] at q q'; exact .inr (.inr (.inr ⟨q, q'⟩))
    · exact .inl q
    · exact .inr (.inl (q.trans ((kO b).1 hb)))
  · have hb : (σ₂.opened c L fun _ f => .v (z f)).kd b = .own 0 := hb
    rcases key b with ⟨_, q⟩ | ⟨_, _, q⟩ | ⟨_, _, _, _, q⟩ | ⟨_, _, _, _, q⟩ | ⟨_, _, _, h', q⟩
    · rw [hb] at q; cases q
    · rw [hb] at q; cases q
    · rw [hb] at q; cases q
    · rw [hb] at q; cases q
    · exact ⟨(kO b).2 (q.symm.trans hb), h'⟩
  · rcases key b with ⟨q, _⟩ | ⟨_, q, _⟩ | ⟨_, _, q, q', _⟩ | ⟨_, _, _, q, _⟩ | ⟨_, _, _, _, q⟩
    · exact absurd (ltA b hb) (by omega)
    · exact absurd h2.chO (AO _ (by rw [q, hCh] at hb; exact hb))
    · rw [hβ] at q q'; exact absurd (fO _ (fpr q')) (AO _ (q ▸ hb))
    · exact absurd (LO b q) (AO b hb)
    · exact q.trans ((hJ2.im b).1 hb)
  · rcases key b with ⟨_, q⟩ | ⟨_, _, q⟩ | ⟨_, _, _, _, q⟩ | ⟨_, _, _, _, q⟩ | ⟨_, _, _, h', q⟩
    · rw [hb] at q; cases q
    · rw [hb] at q; cases q
    · rw [hb] at q; cases q
    · rw [hb] at q; cases q
    · exact (hJ2.im b).2 (q.symm.trans hb)
  · rcases key b with ⟨q, _⟩ | ⟨_, q, _⟩ | ⟨_, _, q, q', _⟩ | ⟨_, _, _, _, q⟩ | ⟨_, _, _, q, _⟩
    · exact absurd (ltO b (LO b hb)) (by omega)
    · exact absurd hb (by rw [q, hCh]; exact chL)
    · rw [hβ] at q q'; exact absurd hb (by rw [q]; exact rL q')
    · exact q
    · exact absurd hb q
  · rw [Nat.sub_self]; exact Nat.le_refl _
end
end Go.Proofs.Ytkfmphlnpmemdaa.Sx
