/- Appending within what a slice is known to hold: rules for slices that are read exactly. Plain laws over any program. -/
import Derived.Test.YtgkcmjmofcekmaaSxK
namespace Go.Proofs.Ytgkcmjmofcekmaa.Sx
open Go
set_option linter.unusedVariables false
set_option linter.unusedSimpArgs false
theorem BOk.appAt {I : Nat → Prop} {w : World} {β : BK} {t : TypeId} {size : Nat} {c c' : C} (h : BOk I w β t size c) {len n : Nat} {get : Nat → Nat → D} (hu : Cat size c 0 len n get c') (hl : len ≤ c.len) (hr : len + n ≤ β.s) (h0 : 0 < n) {vs : List Value}
    (hn : vs.length = n * size) (hv : ∀ e, e < n → ∀ f, f < size → ∃ u, vs[e * size + f]? = some u ∧ u.oneCell' = true ∧ Rd I w (get e f) u) (hI : ¬ I β.b) :
    ∃ cs, w.heap[β.b]? = some (.cells cs t (0, 0)) ∧ β.o + len * size + vs.length ≤ cs.size ∧ BOk I (w.setRow β.b (splice cs (β.o + len * size) vs)) β t size c' := by
  obtain ⟨h0', h1⟩ := h
  obtain ⟨cs, hc, hsz, hget⟩ := h1 (by omega)
  have hle : (len + n) * size ≤ β.s * size := Nat.mul_le_mul_right _ hr
  rw [Nat.add_mul] at hle
  have hfit : β.o + len * size + vs.length ≤ cs.size := by rw [hn, hsz]; omega
  refine ⟨cs, hc, hfit, by rw [hu.hlen]; exact hr, fun _ => ⟨splice cs (β.o + len * size) vs, setRow_heap w β.b cs _ t (0, 0) hc, by rw [size_splice _ _ _ hfit, hsz], fun e' he' f' hf' => ?_⟩⟩
  rw [hu.hlen] at he'
  have hmono : ∀ d u, Rd I w d u → Rd I (w.setRow β.b (splice cs (β.o + len * size) vs)) d u :=
    fun d u hr => hr.mono (fun _ h => h) (fun b hb => setRow_other w β.b b _ (fun e => hI (e ▸ hb)))
  rw [get_splice _ _ _ hfit, hn]
  by_cases hh : len ≤ e'
  · obtain ⟨k, rfl⟩ : ∃ k, e' = len + k := ⟨e' - len, by omega⟩
    have h7 := le_cells (s := n) (size := size) (e := k) (f := f' + 1) (by omega) (by omega)
    have e1 : (len + k) * size = len * size + k * size := Nat.add_mul ..
    obtain ⟨u, hu1, hu2, hu3⟩ := hv k (by omega) f' hf'
    rw [if_pos ⟨by omega, by omega⟩, hu.hnew k f' (by omega) hf']
    exact ⟨u, by rw [show β.o + ((len + k) * size + f') - (β.o + len * size) = k * size + f' by omega]; exact hu1, hu2, hmono _ _ hu3⟩
  · obtain ⟨u, hu1, hu2, hu3⟩ := hget e' (by omega) f' hf'
    have h8 := le_cells (s := len) (size := size) (e := e') (f := f' + 1) (by omega) (by omega)
    rw [hu.hold e' f' (by omega) hf', if_neg (by omega)]
    exact ⟨u, hu1, hu2, hmono _ _ hu3⟩
section
variable {X : Cx} {fn : Func} {R : Ending → World → Prop} {k : List It} {s : St} {d : Tmp} {ty : TypeId} {pos : String} {aft : Array Edge} {gd : Option (Nat × Bool)} {x y : Operand} {q : D} {H0 : List HL}
/-- an append that finds room -/
theorem ef_appendAt {t e : TypeId} {size bytes : Nat} {zv : Value} [ht : SlT X.P t e] [hz : ZI X.P e size bytes zv] {β : BK} {len n m : Nat} {ad : Option Addr} {c c' : C} {get : Nat → Nat → D} {H : List HL}
    (hE : Exact β len ad m) (hx : s.ev x = some (.v (.slice ad len m))) (hy : s.ev y = some q) (hm : At s.heap (.one β e size c) (.one β e size c') H) (hsrc : Src s.heap q size n get) (hu : Cat size c 0 len n get c') (hl : len ≤ c.len) (hr : len + n ≤ m) (hd : Nat.blt d X.nt = true) :
    Eff X ⟨some d, .call { callee := .builtin .append, args := #[x, y], argTypes := #[t, t] }, ty, pos, aft, gd⟩ s [.one β e size c] (fun s2 => s2 = ⟨(d, .v (.slice ad (len + n) m)) :: s.env, H⟩) := fun I a w hs Q => by
  obtain ⟨i, h1, h2, h3, h4, h5, h6⟩ := hz.h
  obtain ⟨a2, c2, hy1, hy2⟩ := hsrc I w _ hs.heap (hs.ev hy)
  have hx1 : a.eval x = .slice ad len m := hs.ev hx
  have hb : BOk I w β e size c := hs.heap _ hm.mem
  have hfE := hE.fit
  have hexec : ∀ v w', (Builtin.append_ #[t, t] ty #[.slice ad len m, .slice a2 n c2]).run X.P w = .ok v w' →
      (execOp a.eval ⟨some d, .call { callee := .builtin .append, args := #[x, y], argTypes := #[t, t] }, ty, pos, aft, gd⟩).run X.P w = .ok (.value v) w' := fun v w' h => by
    simp only [execOp, resolve, invoke, builtin, Sem.run_bind, Sem.run_pure, Result.andThen_ok, List.map_toArray, List.map_cons, List.map_nil, hx1, hy1, h]
  rcases Nat.eq_zero_or_pos n with h0 | h0
  · subst h0
    have hrun : (Builtin.append_ #[t, t] ty #[.slice ad len m, .slice a2 0 c2]).run X.P w = .ok (.slice ad (len + 0) m) w := by
      have hr' : len ≤ m := hr
      cases ad <;> cases a2 <;> simp [Builtin.append_, run_underlying ht.h, sizeOf, typeInfo, h1, Builtin.lenOf, hr', Builtin.firstCells, loadCells, loadCellsFrom, storeCells]
    refine wp_val (hexec _ _ hrun) ⟨Same.refl _ _, _, rfl, ?_⟩
    have hb' : BOk I w β e size c' := by
      refine ⟨by rw [hu.hlen]; have := hb.1; omega, fun hp => ?_⟩
      obtain ⟨cs, k1, k2, k3⟩ := hb.2 hp
      refine ⟨cs, k1, k2, fun e' he' f hf => ?_⟩
      rw [hu.hlen] at he'
      rw [hu.hold e' f (by omega) hf]
      exact k3 e' (by omega) f hf
    have := hs.turn (w' := w) hm (Same.refl _ _) hb' fun b hb => ⟨.inl hb, by
      have := hs.own b ⟨_, hm.mem, hb⟩
      omega⟩
    exact this.put (blt_lt hd) rfl
  · have hpos : 0 < β.s := by omega
    have hown := hs.own β.b ⟨_, hm.mem, hpos, rfl⟩
    obtain ⟨g, o, ha, hc⟩ := hy2 h0
    obtain ⟨news, v1, v2, v3, v4⟩ := list_cells (n := n) (get := get) hc
    obtain ⟨cs, hg, hfit, hb'⟩ := hb.appAt hu hl (by omega) h0 v1 v4 hown.1
    have hfc := run_firstCells_some (P := X.P) w i.size n _ n c2 news (by rw [v1, h3]) v2
    have hst := run_storeCells_at X.P β.b (β.o + len * i.size) e news 0 cs w hg (by rw [h3]; simpa using hfit) v3
    simp only [Nat.add_zero] at hst
    have had := hE.place (by omega)
    have hrun : (Builtin.append_ #[t, t] ty #[.slice ad len m, .slice a2 n c2]).run X.P w = .ok (.slice ad (len + n) m) (w.setRow β.b (splice cs (β.o + len * size) news)) := by
      rw [had, ha, ← h3]
      simp [Builtin.append_, run_underlying ht.h, sizeOf, typeInfo, h1, Builtin.lenOf, hr, hfc, addr_add, hst, splice]
    have hsame : Same w (w.setRow β.b (splice cs (β.o + len * size) news)) (HL.one β e size c).fp := (Same.setRow w β.b _).mono fun i hi => ⟨hpos, hi⟩
    refine wp_val (hexec _ _ hrun) ⟨hsame.mono fun i hi => fps_one hi, _, rfl, ?_⟩
    exact (hs.turn hm hsame hb' fun b hb => ⟨.inl hb, by rw [hb.2]; simpa using hown.2.2⟩).put (blt_lt hd) rfl
/-- onto nothing so many zeros: what comes is read exactly -/
theorem ef_appendZX {t tn e : TypeId} {size bytes : Nat} {zv : Value} {kn kd : IntKind} {m : Int} [ht : SlT X.P t e] [hn : IntT X.P tn kn] [hz : ZI X.P e size bytes zv] (hx : s.ev x = some (.v (.slice none 0 0))) (hy : s.ev y = some (.v (.int kd m))) (h : 1 ≤ m ∧ m ≤ 35184372088832)
    (hsz : Nat.blt 0 size = true) (hb : Nat.ble bytes 8 = true) (hd : Nat.blt d X.nt = true) :
    Eff X ⟨some d, .call { callee := .builtin .append, args := #[x, y], argTypes := #[t, tn] }, ty, pos, aft, gd⟩ s []
      (fun s2 => ∃ β : BK, Exact β m.toNat (some ⟨β.b, β.o, none⟩) β.s ∧ s2 = ⟨(d, .v (.slice (some ⟨β.b, β.o, none⟩) m.toNat β.s)) :: s.env, .one β e size ⟨m.toNat, fun _ f => .v (zv.cells.getD f undef)⟩ :: s.heap⟩) := fun I a w hs Q => by
  obtain ⟨i, h1, h2, h3, h4, h5, h6⟩ := hz.h
  have e1 : a.eval x = .slice none 0 0 := hs.ev hx
  have e2 : a.eval y = .int kd m := hs.ev hy
  have hsz' := blt_lt hsz
  have hb' := Nat.le_of_ble_eq_true hb
  have em : m = (m.toNat : Int) := by omega
  have hmul : m.toNat * i.bytes ≤ 35184372088832 * 8 := Nat.mul_le_mul (by omega) (by rw [h4]; exact hb')
  have hr := Go.Lib.run_append_nil_zeros (P := X.P) w t tn ty e i zv kd kn ht.h hn.h h1 h2 m.toNat (by omega) (by rw [h3]; exact hsz') (by omega) (by omega)
  rw [← em] at hr
  have hge := grownCap_ge w m.toNat 0 e
  have hmx := grownCap_le_maxLen w m.toNat 0 e (by unfold maxLen; omega)
  have hrun : (execOp a.eval ⟨some d, .call { callee := .builtin .append, args := #[x, y], argTypes := #[t, tn] }, ty, pos, aft, gd⟩).run X.P w = .ok (.value (.slice (some ⟨w.heap.size, 0, none⟩) m.toNat (grownCap w m.toNat 0 e)))
      (w.drew.alloc (.cells (Builtin.zeroCells zv.cells m.toNat ++ Builtin.zeroCells zv.cells (grownCap w m.toNat 0 e - m.toNat)) e)) := by
    simp only [execOp, resolve, invoke, builtin, Sem.run_bind, Sem.run_pure, Result.andThen_ok, List.map_toArray, List.map_cons, List.map_nil, e1, e2, hr]
  refine wp_val hrun ⟨(Same.drew w _).trans (Same.alloc w.drew _ _), _, ⟨⟨w.heap.size, 0, grownCap w m.toNat 0 e⟩, ⟨hge, hmx, Nat.le_refl _, fun _ => rfl⟩, rfl⟩, ?_⟩
  have hsz1 : (Builtin.zeroCells zv.cells m.toNat).size = m.toNat * size := by rw [size_zeroCells, h5]
  have hfr := hs.drew.fresh (Builtin.zeroCells zv.cells m.toNat ++ Builtin.zeroCells zv.cells (grownCap w m.toNat 0 e - m.toNat)) e (grownCap w m.toNat 0 e) size ⟨m.toNat, fun _ f => .v (zv.cells.getD f undef)⟩ (by
      simp only [Array.size_append, size_zeroCells, h5, ← Nat.add_mul]
      congr 1
      omega) hge fun e' he' f hf => by
    have hf' : f < zv.cells.size := by omega
    have he2 : e' < m.toNat := he'
    have hlt : e' * size + f < m.toNat * size := by have := le_cells (s := m.toNat) (size := size) (e := e') (f := f + 1) he2 (by omega); omega
    have hm : (e' * size + f) % size = f := by rw [Nat.mul_comm, Nat.mul_add_mod, Nat.mod_eq_of_lt hf]
    have e9 : zv.cells.getD f undef = zv.cells[f] := by simp [hf']
    refine ⟨zv.cells.getD f undef, ?_, by rw [e9]; exact h6 _ (by simp), rfl⟩
    rw [Array.getElem?_append_left (by rw [hsz1]; exact hlt)]
    rw [e9]
    exact zeroCells_get h5 hlt hm hf'
  exact hfr.put (blt_lt hd) rfl
/-- its head -/
theorem ps_sliceX {β : BK} {size len m h : Nat} {t e : TypeId} {ag : Bool} {kd : IntKind} [ht : SlT X.P t e] [he : TI X.P e size ag] (hx : s.ev x = some (.v (.slice (some ⟨β.b, β.o, none⟩) len m))) (hy : s.ev y = some (.v (.int kd (h : Int)))) (hh : h ≤ m)
    (hd : Nat.blt d X.nt = true) : PureStep X H0 ⟨some d, .slice t x none (some y) none, ty, pos, aft, none⟩ s (s.put d (.v (.slice (some ⟨β.b, β.o, none⟩) h m))) :=
  ps_of hd fun _ a _ hs => by
    have hv : a.eval x = .slice (some ⟨β.b, β.o, none⟩) len m := hs.ev hx
    have e1 : a.eval y = .int kd (h : Int) := hs.ev hy
    have := fun w' => run_slicing (P := X.P) (w := w') ht.h he (a := some ⟨β.b, β.o, none⟩) (len := len) (cap := m) (l := 0) (h := h) (lo := none) (hi := some (.int kd h)) (.inl ⟨rfl, rfl⟩) (.inr ⟨kd, rfl⟩) (Nat.zero_le _) hh
    refine ⟨.slice (if m = 0 then some ⟨β.b, β.o, none⟩ else (some (⟨β.b, β.o, none⟩ : Addr)).map (·.add (0 * size))) (h - 0) (m - 0), fun w' _ => by simp only [execOp, hv, Option.map_none, Option.map_some, e1, this w', Sem.run_bind, Result.andThen_ok, Sem.run_pure], ?_⟩
    show _ = Value.slice _ _ _
    split <;> simp [addr_add]
theorem DLe.exact {β : BK} {size len m : Nat} {ad : Option Addr} (hE : Exact β len ad m) : DLe (.v (.slice ad len m)) (.own β size 0 len) := fun I w v hv =>
  ⟨ad, m, hv, hE.le, hE.most, by have := hE.fit; omega, fun h => by rw [hE.place h]; simp⟩
/-- a row is what its head says -/
theorem HLe.none {α : Type} [El α] {β : BK} {t : TypeId} {size : Nat} {c : C} : HLe (.one β t size c) (.one β t size (row ([] : List α))) := HLe.c (Nat.zero_le _) fun e he => absurd he (Nat.not_lt_zero _)
theorem Exact.nil : Exact ⟨0, 0, 0⟩ 0 none 0 := ⟨Nat.le_refl _, Nat.zero_le _, Nat.le_refl _, fun h => absurd h (by simp)⟩
theorem Exact.more {β : BK} {len len' m : Nat} {ad : Option Addr} (h : Exact β len ad m) (hl : len' ≤ m) : Exact β len' ad m := ⟨hl, h.most, h.fit, h.place⟩
end
end Go.Proofs.Ytgkcmjmofcekmaa.Sx
