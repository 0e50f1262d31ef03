/- The walk's rules for a row of which nothing is known but how long it is: what a call that spoils a slice to its capacity does. Plain laws over any program. -/
import Derived.Test.YtgkcmjmofcekmaaSxJ
namespace Go.Proofs.Ytgkcmjmofcekmaa.Sx
open Go
set_option linter.unusedVariables false
set_option linter.unusedSimpArgs false
/-- nothing is known of what the row holds -/
def raw : C := ⟨0, fun _ _ => .junk⟩
theorem HLe.raw {β : BK} {t : TypeId} {size : Nat} {c : C} : HLe (.one β t size c) (.one β t size raw) := HLe.c (Nat.zero_le _) fun e he => absurd he (Nat.not_lt_zero _)
/-- A slice of a whole row, read to its capacity. -/
structure Exact (β : BK) (len : Nat) (a : Option Addr) (m : Nat) : Prop where
  le : len ≤ m
  most : m ≤ maxLen
  fit : m ≤ β.s
  place : 0 < m → a = some ⟨β.b, β.o, none⟩
section
variable {X : Cx} {fn : Func} {R : Ending → World → Prop} {k : List It} {s s' : St} {all : Array Oper} {os : List Oper} {H0 : List HL}
theorem GoC.exactJ {c : Code} (j : Nat) {β : BK} {size len : Nat} (hj : look s.env j = some (.own β size 0 len)) (h : ∀ a m, Exact β len a m → GoC X fn R c k ⟨(j, .v (.slice a len m)) :: s.env, s.heap⟩) : GoC X fn R c k s :=
  ⟨fun I a w hs => by
    obtain ⟨ad, cap, hv, h1, h2, h3, h4⟩ := hs.env j _ hj
    refine (h ad cap ⟨h1, h2, by omega, fun h0 => by simpa using h4 h0⟩).run I a w (hs.weaken (fun i d hd => ?_) (List.Sublist.refl _))
    have hd' : _root_.cond (Nat.beq j i) (some (D.v (.slice ad len cap))) (look s.env i) = some d := hd
    by_cases hji : j = i
    · subst hji
      simp only [Nat.beq_refl, cond_true, Option.some.injEq] at hd'
      subst hd'
      exact hv
    · have hb : Nat.beq j i = false := by rw [Bool.eq_false_iff]; exact fun e => hji (Nat.eq_of_beq_eq_true e)
      rw [hb] at hd'
      exact hs.env i d hd'⟩
theorem look_last (s : St) (j : Nat) (d : D) (hd : look s.env j = some d) : s.ev (.tmp j) = some d := hd
variable {d : Tmp} {ty : TypeId} {pos : String} {aft : Array Edge} {gd : Option (Nat × Bool)} {x y z : Operand} {q : D}
theorem ps_capV {t e : TypeId} [ht : SlT X.P t e] {ad : Option Addr} {n m : Nat} (hx : s.ev x = some (.v (.slice ad n m))) (hd : Nat.blt d X.nt = true) :
    PureStep X H0 ⟨some d, .call { callee := .builtin .cap, args := #[x], argTypes := #[t] }, ty, pos, aft, none⟩ s (s.put d (.v (.int .i64 m))) :=
  ps_of hd fun _ a _ hs => by
    have hv : a.eval x = .slice ad n m := hs.ev hx
    refine ⟨_, fun w' _ => ?_, rfl⟩
    simp [execOp, resolve, invoke, builtin, Builtin.cap_, hv, run_underlying ht.h, goInt]
/-- the whole row, to its capacity -/
theorem ps_sliceCap {β : BK} {size len m : Nat} {ad : Option Addr} {t e : TypeId} {ag : Bool} {kd : IntKind} [ht : SlT X.P t e] [he : TI X.P e size ag] (hE : Exact β len ad m) (hx : s.ev x = some (.v (.slice ad len m))) (hy : s.ev y = some (.v (.int kd (m : Int))))
    (hd : Nat.blt d X.nt = true) : PureStep X H0 ⟨some d, .slice t x none (some y) none, ty, pos, aft, none⟩ s (s.put d (.own β size 0 m)) :=
  ps_of hd fun _ a _ hs => by
    have hv : a.eval x = .slice ad len m := hs.ev hx
    have e1 : a.eval y = .int kd (m : Int) := hs.ev hy
    have := fun w' => run_slicing (P := X.P) (w := w') ht.h he (a := ad) (len := len) (cap := m) (l := 0) (h := m) (lo := none) (hi := some (.int kd m)) (.inl ⟨rfl, rfl⟩) (.inr ⟨kd, rfl⟩) (Nat.zero_le _) (Nat.le_refl _)
    refine ⟨.slice (if m = 0 then ad else ad.map (·.add (0 * size))) (m - 0) (m - 0), fun w' _ => by simp only [execOp, hv, Option.map_none, Option.map_some, e1, this w', Sem.run_bind, Result.andThen_ok, Sem.run_pure], _, m, rfl, Nat.le_refl _, hE.most, by have := hE.fit; omega, fun h0 => ?_⟩
    rw [if_neg (by omega), hE.place h0]
    simp [addr_add]
theorem BOk.storeRaw {I : Nat → Prop} {w : World} {β : BK} {t : TypeId} {size : Nat} (h : BOk I w β t size raw) {e f n : Nat} (he : e < β.s) (hf : f + n ≤ size) {vs : List Value} (hn : vs.length = n) :
    ∃ cs, w.heap[β.b]? = some (.cells cs t (0, 0)) ∧ β.o + (e * size + f) + n ≤ cs.size ∧ BOk I (w.setRow β.b (splice cs (β.o + (e * size + f)) vs)) β t size raw := by
  obtain ⟨h0, h1⟩ := h
  obtain ⟨cs, hc, hsz, hget⟩ := h1 (by omega)
  have hle := le_cells (s := β.s) (size := size) (e := e) (f := f + n) he hf
  have hfit : β.o + (e * size + f) + vs.length ≤ cs.size := by rw [hn, hsz]; omega
  exact ⟨cs, hc, by rw [← hn]; exact hfit, h0, fun _ => ⟨splice cs (β.o + (e * size + f)) vs, setRow_heap w β.b cs _ t (0, 0) hc, by rw [size_splice _ _ _ hfit, hsz], fun e' he' => absurd he' (Nat.not_lt_zero _)⟩⟩
theorem ef_storeRaw {β : BK} {size e f : Nat} {t te : TypeId} {H : List HL} [ht : TI X.P t 1 false] (hx : s.ev x = some (.ptr β size e f)) (hy : s.ev y = some q) (hq : q.one = true)
    (hm : At s.heap (.one β te size raw) (.one β te size raw) H) (he : e < β.s) (hf : Nat.blt f size = true) :
    Eff X ⟨none, .store t x y, ty, pos, aft, gd⟩ s [.one β te size raw] (fun s2 => s2 = ⟨s.env, H⟩) := fun I a w hs Q => by
  have hv : a.eval x = .pointer (some ⟨β.b, β.o + (e * size + f), none⟩) := hs.ev hx
  have ho := D.one_ok hq (hs.ev hy)
  have hb : BOk I w β te size raw := hs.heap _ hm.mem
  have hpos : 0 < β.s := by omega
  have hown := hs.own β.b ⟨_, hm.mem, hpos, rfl⟩
  obtain ⟨cs, hg, hfit, hb'⟩ := hb.storeRaw he (n := 1) (blt_lt hf) (vs := [a.eval y]) rfl
  have hrun := run_storeVar (P := X.P) (w := w) (t := t) (v := a.eval y) (by rw [cells_one ho]; rfl) hg hfit (by rw [cells_one ho]; simpa using ho)
  rw [cells_one ho] at hrun
  have hsame : Same w (w.setRow β.b (splice cs (β.o + (e * size + f)) [a.eval y])) (HL.one β te size raw).fp := (Same.setRow w β.b _).mono fun i hi => ⟨hpos, hi⟩
  refine wp_skip0 (w' := w.setRow β.b (splice cs (β.o + (e * size + f)) [a.eval y])) ?_ ⟨hsame.mono fun i hi => fps_one hi, _, rfl, ?_⟩
  · simp only [execOp, Instr.storeAt, Instr.sureAddr, hv, Sem.run_bind, Sem.run_pure, Result.andThen_ok, hrun]
  · exact hs.turn hm hsame hb' fun b hb => ⟨.inl hb, by rw [hb.2]; simpa using hown.2.2⟩
theorem ef_storeAgRaw {β : BK} {size e f n : Nat} {g : Nat → D} {t te : TypeId} {H : List HL} [ht : TI X.P t n true] (hx : s.ev x = some (.ptr β size e f)) (hy : s.ev y = some (.ag n g))
    (hm : At s.heap (.one β te size raw) (.one β te size raw) H) (he : e < β.s) (hf : Nat.ble (f + n) size = true) :
    Eff X ⟨none, .store t x y, ty, pos, aft, gd⟩ s [.one β te size raw] (fun s2 => s2 = ⟨s.env, H⟩) := fun I a w hs Q => by
  have hv : a.eval x = .pointer (some ⟨β.b, β.o + (e * size + f), none⟩) := hs.ev hx
  obtain ⟨vs, hvs, hsz, hr⟩ := hs.ev hy
  have hb : BOk I w β te size raw := hs.heap _ hm.mem
  have hpos : 0 < β.s := by omega
  have hown := hs.own β.b ⟨_, hm.mem, hpos, rfl⟩
  obtain ⟨cs, hg, hfit, hb'⟩ := hb.storeRaw he (Nat.le_of_ble_eq_true hf) (vs := vs.toList) (by simpa using hsz)
  have hrun := run_storeVar (P := X.P) (w := w) (t := t) (v := .agg vs) hsz hg hfit (fun u hu => by
    obtain ⟨j, hj⟩ := List.mem_iff_getElem?.1 hu
    have hj' : vs[j]? = some u := by simpa [Value.cells] using hj
    have hjn : j < n := by
      have := (Array.getElem?_eq_some_iff.1 hj').1
      omega
    obtain ⟨u', h1, h2, _⟩ := hr j hjn
    rw [hj'] at h1
    cases h1
    exact h2)
  have hsame : Same w (w.setRow β.b (splice cs (β.o + (e * size + f)) vs.toList)) (HL.one β te size raw).fp := (Same.setRow w β.b _).mono fun i hi => ⟨hpos, hi⟩
  refine wp_skip0 (w' := w.setRow β.b (splice cs (β.o + (e * size + f)) vs.toList)) ?_ ⟨hsame.mono fun i hi => fps_one hi, _, rfl, ?_⟩
  · simp only [execOp, Instr.storeAt, Instr.sureAddr, hv, hvs, Sem.run_bind, Sem.run_pure, Result.andThen_ok, hrun, Value.cells]
  · exact hs.turn hm hsame hb' fun b hb => ⟨.inl hb, by rw [hb.2]; simpa using hown.2.2⟩
end
end Go.Proofs.Ytgkcmjmofcekmaa.Sx
