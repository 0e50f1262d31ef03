import Derived.Test.YtkfmphlnpmemdaaQCoC
set_option linter.unusedVariables false
set_option linter.unusedSimpArgs false
namespace Go.Proofs.Ytkfmphlnpmemdaa.Sx
open Go Go.Conc
theorem atOnce_then {α : Type} {r : Result α} {f : α → Next} (h : ∀ x, (∀ g args, f x ≠ .enter g args) ∧ ∀ row args, f x ≠ .row row args) : AtOnce (r.andThen fun x w => .ok (f x) w) := by
  intro w'
  cases r with
  | ok x w =>
    refine ⟨fun g args e => ?_, fun row args e => ?_⟩
    · simp only [Result.andThen_ok, Result.ok.injEq] at e
      exact (h x).1 g args e.1
    · simp only [Result.andThen_ok, Result.ok.injEq] at e
      exact (h x).2 row args e.1
  | halt x w => exact ⟨fun g args e => (by cases e), fun row args e => (by cases e)⟩
theorem atOnce_v {s : Sem Value} {P : Program} {w : World} : AtOnce ((do Pure.pure (Next.value (← s)) : Sem Next).run P w) := by
  rw [Sem.run_bind]
  exact atOnce_then (f := Next.value) fun x => ⟨fun _ _ e => (by cases e), fun _ _ e => (by cases e)⟩
theorem atOnce_u {s : Sem Unit} {P : Program} {w : World} : AtOnce ((do s; Pure.pure Next.skip : Sem Next).run P w) := by
  rw [Sem.run_bind]
  exact atOnce_then (f := fun _ => Next.skip) fun x => ⟨fun _ _ e => (by cases e), fun _ _ e => (by cases e)⟩
namespace Y
section
variable {X : Cx} {s s' : St} {H0 : List HL} {d : Tmp} {ty : TypeId} {pos : String} {aft : Array Edge} {gd : Option (Nat × Bool)} {x y z : Operand} {xt yt : TypeId} {q : D} {m n : Int} {kd k2 : IntKind}
theorem quietE {o : Oper} {wr : List HL} {next : St → Prop} (he : Eff X o s wr next) (h : ∀ I a w, Sat X I s a w → AtOnce ((execOp a.eval o).run X.P w) ∧ (execOp a.eval o).events X.P w #[] = #[]) : EffE X o s wr next :=
  ⟨he, fun I a w hs => ⟨(h I a w hs).1, fun w' x hr e hm => by rw [(h I a w hs).2] at hm; exact absurd hm (Array.not_mem_empty _)⟩⟩
theorem ef_allocE {t : TypeId} {size bytes : Nat} {z : Value} [hz : ZI X.P t size bytes z] (hd : Nat.blt d X.nt = true) :
    EffE X ⟨some d, .alloc t, ty, pos, aft, gd⟩ s [] (fun s2 => ∃ β : BK, s2 = ⟨(d, .ptr β size 0 0) :: s.env, .one β t size (st1 fun f => .v (z.cells.getD f undef)) :: s.heap⟩) :=
  quietE (Sx.ef_alloc hd) fun I a w hs => ⟨atOnce_v, by
    obtain ⟨i, h1, h2, h3, h4, h5, h6⟩ := hz.h
    simp [execOp, Instr.alloc, zeroValue, typeInfo, h1, h2, newVar, newRow]⟩
theorem ef_boxAgE {t : TypeId} {n : Nat} {g : Nat → D} (hx : s.ev x = some (.ag n g)) (hd : Nat.blt d X.nt = true) :
    EffE X ⟨some d, .box t x, ty, pos, aft, gd⟩ s [] (fun s2 => ∃ β : BK, s2 = ⟨(d, .ptr β n 0 0) :: s.env, .one β t n (st1 g) :: s.heap⟩) :=
  quietE (Sx.ef_boxAg hx hd) fun I a w hs => ⟨atOnce_v, by simp [execOp, Instr.box, newVar, newRow]⟩
theorem ef_boxE {t : TypeId} {n : Nat} {ag : Bool} [ht : TI X.P t n ag] (hx : s.ev x = some q) (hq : q.one = true) (hd : Nat.blt d X.nt = true) :
    EffE X ⟨some d, .box t x, ty, pos, aft, gd⟩ s [] (fun s2 => ∃ β : BK, s2 = ⟨(d, .ptr β 1 0 0) :: s.env, .one β t 1 (st1 fun _ => q) :: s.heap⟩) :=
  quietE (Sx.ef_box hx hq hd) fun I a w hs => ⟨atOnce_v, by simp [execOp, Instr.box, newVar, newRow]⟩
theorem ev_storeVar {P : Program} {w : World} {t te : TypeId} {n : Nat} {ag : Bool} [ht : TI P t n ag] {v : Value} (hv : v.cells.size = n) {g o : Nat} {cs : Array Value} (hg : w.heap[g]? = some (.cells cs te (0, 0)))
    (hfit : o + n ≤ cs.size) (h1 : ∀ u ∈ v.cells.toList, u.oneCell' = true) {e : Event} (he : e ∈ (storeVar t ⟨g, o, none⟩ v).events P w #[]) : ∃ ad : Addr, e.loc = .cell ad ∧ ad.block = g := by
  simp only [storeVar, Sem.events_bind, events_sizeOf, ht.size, Result.evThen, hv, ne_eq, not_true_eq_false, if_false] at he
  rcases events_storeCells_at (P := P) g o te v.cells.toList 0 cs w #[] hg (by simpa [hv] using hfit) h1 e he with h | h
  · exact absurd h (Array.not_mem_empty _)
  · exact h
theorem ef_storeE {β : BK} {size e f : Nat} {t te : TypeId} {c c' : C} {H : List HL} [ht : TI X.P t 1 false] (hx : s.ev x = some (.ptr β size e f)) (hy : s.ev y = some q) (hq : q.one = true)
    (hm : At s.heap (.one β te size c) (.one β te size c') H) (hu : Upd1 size c e f q c') (he : e < c.len) (hf : Nat.blt f size = true) :
    EffE X ⟨none, .store t x y, ty, pos, aft, gd⟩ s [.one β te size c] (fun s2 => s2 = ⟨s.env, H⟩) :=
  ⟨Sx.ef_store hx hy hq hm hu he hf, fun I a w hs => ⟨atOnce_u, fun w' xx hr ev hev => by
    have hv : a.eval x = .pointer (some ⟨β.b, β.o + (e * size + f), none⟩) := hs.ev hx
    have hr2 := hs.ev hy
    have ho := D.one_ok hq hr2
    have hb : BOk I w β te size c := hs.heap _ hm.mem
    have hpos : 0 < β.s := by have := hb.1; omega
    have hown := hs.own β.b ⟨_, hm.mem, hpos, rfl⟩
    obtain ⟨cs, hg, hfit, hb'⟩ := hb.store hu.toN he (blt_lt hf) (vs := [a.eval y]) rfl (fun j hj => ⟨a.eval y, by simp [show j = 0 by omega], ho, hr2⟩) hown.1
    simp only [execOp, Instr.storeAt, Instr.sureAddr, hv, Sem.events_bind, Sem.run_bind, Sem.run_pure, Sem.events_pure, Result.evThen, Result.andThen_ok] at hev
    have hev' : ev ∈ (storeVar t ⟨β.b, β.o + (e * size + f), none⟩ (a.eval y)).events X.P w #[] := by
      revert hev
      cases (storeVar t ⟨β.b, β.o + (e * size + f), none⟩ (a.eval y)).run X.P w <;> exact id
    obtain ⟨ad, k1, k2⟩ := ev_storeVar (by rw [cells_one ho]; rfl) hg hfit (by rw [cells_one ho]; simpa using ho) hev'
    exact .inl ⟨ad, k1, .inr (.inl (by rw [k2]; exact ⟨_, hm.mem, hpos, rfl⟩))⟩⟩⟩
theorem ef_storeAgE {β : BK} {size e f n : Nat} {g : Nat → D} {t te : TypeId} {c c' : C} {H : List HL} [ht : TI X.P t n true] (hx : s.ev x = some (.ptr β size e f)) (hy : s.ev y = some (.ag n g))
    (hm : At s.heap (.one β te size c) (.one β te size c') H) (hu : UpdN size c e f n g c') (he : e < c.len) (hf : Nat.ble (f + n) size = true) :
    EffE X ⟨none, .store t x y, ty, pos, aft, gd⟩ s [.one β te size c] (fun s2 => s2 = ⟨s.env, H⟩) :=
  ⟨Sx.ef_storeAg hx hy hm hu he hf, fun I a w hs => ⟨atOnce_u, fun w' xx hr2 ev hev => by
    have hv : a.eval x = .pointer (some ⟨β.b, β.o + (e * size + f), none⟩) := hs.ev hx
    obtain ⟨vs, hvs, hsz, hr⟩ := hs.ev hy
    have hb : BOk I w β te size c := hs.heap _ hm.mem
    have hpos : 0 < β.s := by have := hb.1; omega
    have hown := hs.own β.b ⟨_, hm.mem, hpos, rfl⟩
    obtain ⟨cs, hg, hfit, hb'⟩ := hb.store hu he (Nat.le_of_ble_eq_true hf) (vs := vs.toList) (by simpa using hsz) (fun j hj => by
      obtain ⟨u, h1, h2, h3⟩ := hr j hj
      exact ⟨u, by simpa using h1, h2, h3⟩) hown.1
    simp only [execOp, Instr.storeAt, Instr.sureAddr, hv, hvs, Sem.events_bind, Sem.run_bind, Sem.run_pure, Sem.events_pure, Result.evThen, Result.andThen_ok] at hev
    have hev' : ev ∈ (storeVar t ⟨β.b, β.o + (e * size + f), none⟩ (.agg vs)).events X.P w #[] := by
      revert hev
      cases (storeVar t ⟨β.b, β.o + (e * size + f), none⟩ (.agg vs)).run X.P w <;> exact id
    obtain ⟨ad, k1, k2⟩ := ev_storeVar (v := .agg vs) hsz hg hfit (fun u hu => by
      obtain ⟨j, hj⟩ := List.mem_iff_getElem?.1 hu
      have hj' : vs[j]? = some u := by simpa [Value.cells] using hj
      have hjn : j < n := by
        have := (Array.getElem?_eq_some_iff.1 hj').1
        omega
      obtain ⟨u', h1, h2, _⟩ := hr j hjn
      rw [hj'] at h1
      cases h1
      exact h2) hev'
    exact .inl ⟨ad, k1, .inr (.inl (by rw [k2]; exact ⟨_, hm.mem, hpos, rfl⟩))⟩⟩⟩
theorem ev_builtin {r : Result Value} {f : Value → World → Array Event → Array Event} {es : Array Event} (hf : ∀ v w es, f v w es = es) : r.evThen es f = es := by
  cases r <;> simp [Result.evThen, hf]
theorem ev_equalIn_slice_nil {P : Program} (w : World) (dp : Nat) (t e : TypeId) (a : Option Addr) (l c : Nat) (h : P.underlying t = some (.slice e)) (es : Array Event) : (Op.equalIn (dp + 1) t (.slice a l c) (.slice none 0 0)).events P w es = es := by
  cases a <;> simp [Op.equalIn, run_underlying h]
set_option maxRecDepth 20000 in
theorem ef_eqlNilE {size len : Nat} {get : Nat → Nat → D} {e xt yt : TypeId} [ht : SlT X.P xt e] (hx : s.ev x = some (.sl size len get)) (hy : s.ev y = some (.v (.slice none 0 0))) (hd : Nat.blt d X.nt = true) :
    EffE X ⟨some d, .binOp .eql xt x y yt, ty, pos, aft, gd⟩ s [] (fun s2 => ∃ b : Bool, (b = true → len = 0) ∧ s2 = s.put d (.v (.bool b))) :=
  quietE (Sx.ef_eqlNil hx hy hd) fun I a w hs => ⟨atOnce_v, by
    obtain ⟨ad, cap, hv, h1, h2, h3⟩ := hs.ev hx
    have e2 : a.eval y = .slice none 0 0 := hs.ev hy
    have e4 : (eqGuard .eql xt x y (.slice ad len cap) (.slice none 0 0)).run X.P w = .ok () w := rfl
    have e5 : (eqGuard .eql xt x y (.slice ad len cap) (.slice none 0 0)).events X.P w #[] = #[] := rfl
    have e6 : (Op.equal xt (.slice ad len cap) (.slice none 0 0)).events X.P w #[] = #[] := ev_equalIn_slice_nil w 9999 xt e ad len cap ht.h #[]
    have e7 := run_equal_slice_nil (P := X.P) w xt e ad len cap ht.h
    have e8 : (do eqGuard .eql xt x y (.slice ad len cap) (.slice none 0 0); binOp .eql xt (.slice ad len cap) (.slice none 0 0) : Sem Value).events X.P w #[] = #[] := by
      rw [Sem.events_bind, e4, e5]
      show (do Pure.pure (Value.bool (← Op.equal xt (.slice ad len cap) (.slice none 0 0))) : Sem Value).events X.P w #[] = #[]
      rw [Sem.events_bind, e6, e7]
      rfl
    show (do Pure.pure (Next.value (← (do eqGuard .eql xt x y (a.eval x) (a.eval y); binOp .eql xt (a.eval x) (a.eval y)))) : Sem Next).events X.P w #[] = #[]
    rw [hv, e2, Sem.events_bind, e8]
    exact ev_builtin fun _ _ _ => rfl⟩
theorem ef_makeZE {t e : TypeId} {size bytes : Nat} {z : Value} {m : Int} [ht : SlT X.P t e] [hz : ZI X.P e size bytes z] (hx : s.ev x = some (.v (.int .i64 m))) (hy : s.ev y = some (.v (.int .i64 m))) (h0 : 0 ≤ m ∧ m ≤ 10000000000) (hb : Nat.ble bytes 100 = true)
    (hd : Nat.blt d X.nt = true) (hb1 : Nat.blt 0 bytes = true) :
    EffE X ⟨some d, .makeSlice t x y, ty, pos, aft, gd⟩ s [] (fun s2 => ∃ β : BK, s2 = ⟨(d, .own β size 0 m.toNat) :: s.env, .one β e size ⟨m.toNat, fun _ f => .v (z.cells.getD f undef)⟩ :: s.heap⟩) :=
  quietE (Sx.ef_makeZ hx hy h0 hb hd hb1) fun I a w hs => ⟨atOnce_v, by
    obtain ⟨i, h1, h2, h3, h4, h5, h6⟩ := hz.h
    have ex : a.eval x = .int .i64 m := hs.ev hx
    have ey : a.eval y = .int .i64 m := hs.ev hy
    have hb' := Nat.le_of_ble_eq_true hb
    have hmt : m.toNat * bytes ≤ 1000000000000 := Nat.le_trans (Nat.mul_le_mul (show m.toNat ≤ 10000000000 by omega) hb') (by omega)
    have hmb : (bytes : Int) * m ≤ 1000000000000 := by
      have e1 : m = (m.toNat : Int) := by omega
      have e2 : ((m.toNat * bytes : Nat) : Int) ≤ 1000000000000 := by omega
      rw [e1, Int.mul_comm, ← Int.natCast_mul]; exact e2
    have hr := run_make (P := X.P) w t e i z ht.h h1 h2 .i64 .i64 m m h0.1 (Int.le_refl _) (by rw [h4]; omega) (by omega)
    have he := events_make (P := X.P) w t e i z ht.h h1 h2 .i64 .i64 m m h0.1 (Int.le_refl _) (by rw [h4]; omega) (by omega) (by rw [h4]; omega) #[]
    simp only [execOp, ex, ey, Sem.events_bind, hr, he, Result.evThen, Sem.events_pure]⟩
theorem ef_buildSliceE (c : C) {t e : TypeId} {size bytes n : Nat} {zv : Value} {ps : List (Nat × Operand)} {l' : List D} [ht : SlT X.P t e] [hz : ZI X.P e size bytes zv]
    (hn : Nat.ble (n * size) 16777216 = true) (hp : Parts s (fun i off sz => off = i * size ∧ sz = size) ps ((List.range (n * size)).map fun j => D.v (zv.cells.toList.getD (j % size) undef)) l') (hc : flat size c = l') (hlen : c.len = n) (hs0 : Nat.blt 0 size = true)
    (hd : Nat.blt d X.nt = true) :
    EffE X ⟨some d, .buildSlice t n ps.toArray, ty, pos, aft, gd⟩ s [] (fun s2 => ∃ β : BK, s2 = ⟨(d, .own β size 0 n) :: s.env, .one β e size c :: s.heap⟩) :=
  quietE (Sx.ef_buildSlice c hn hp hc hlen hs0 hd) fun I a w hs => ⟨atOnce_v, by
    obtain ⟨i, h1, h2, h3, h4, h5, h6⟩ := hz.h
    have hn' := Nat.le_of_ble_eq_true hn
    have fin : ∀ r : Option (Array Value), (match r with
      | some cells => (do Pure.pure (Value.slice (some (← newRow e cells)) n n) : Sem Value)
      | _ => stuck "buildSlice: a part of the wrong size").events X.P w #[] = #[] := fun r => by cases r <;> simp [newRow]
    have hsz : ∀ w, (sizeOf e).run X.P w = .ok size w := fun w => by simp [sizeOf, typeInfo, h1, h3]
    have hz : ∀ w, (zeroValue e).run X.P w = .ok zv w := fun w => by simp [zeroValue, typeInfo, h1, h2]
    have inner : ∀ qs, (Instr.buildSlice t n qs).events X.P w #[] = #[] := fun qs => by
      unfold Instr.buildSlice
      rw [Sem.events_bind, events_underlying, run_underlying ht.h]
      simp only [Result.evThen]
      rw [Sem.events_bind, events_sizeOf, hsz]
      simp only [Result.evThen]
      rw [if_neg (by omega)]
      by_cases h0 : n * size = 0
      · rw [if_pos h0]
        simp only [Sem.events_bind, Sem.events_pure, Sem.run_pure, Result.evThen]
        exact fin _
      · rw [if_neg h0]
        simp only [Sem.events_bind, Sem.run_bind, events_zeroValue, hz, Sem.events_pure, Sem.run_pure, Result.evThen, Result.andThen_ok]
        exact fin _
    show (do Pure.pure (Next.value (← Instr.buildSlice t n _)) : Sem Next).events X.P w #[] = #[]
    rw [Sem.events_bind, inner]
    exact ev_builtin fun _ _ _ => rfl⟩
end
end Y
theorem ev_firstCells {P : Program} {B : Nat → Prop} {size n l c : Nat} {a : Option Addr} {w : World} {es : Array Event} (h : 0 < n → ∃ g o, a = some ⟨g, o, none⟩ ∧ B g ∧ ∀ j, j < n * size → (w.cell? ((⟨g, o, none⟩ : Addr).add j)).isSome) :
    ∀ ev ∈ (Builtin.firstCells size n (.slice a l c)).events P w es, ev ∈ es ∨ ev.readsIn B := by
  intro ev hev
  rcases Nat.eq_zero_or_pos n with h0 | h0
  · subst h0
    left
    cases a <;> simpa [Builtin.firstCells, loadCells, loadCellsFrom] using hev
  · obtain ⟨g, o, rfl, h1, h2⟩ := h h0
    exact events_firstCells_in B size n (.slice (some ⟨g, o, none⟩) l c) w es (fun a' l' c' e => by cases e; exact ⟨h1, h2⟩) ev hev
theorem ev_append_all {P : Program} {w : World} {t ty e : TypeId} {i : TypeInfo} {z : Value} (ht : P.underlying t = some (.slice e)) (hi : P.info? e = some i) (hz : i.zero = some z)
    {ad : Option Addr} {len cap : Nat} (hlc : len ≤ cap) {g o : Nat} (had : 0 < cap → ad = some ⟨g, o, none⟩) {olds : List Value} (ho1 : olds.length = len * i.size) (ho2 : ∀ j u, olds[j]? = some u → w.cell? ((⟨g, o, none⟩ : Addr).add j) = some u)
    {a2 : Option Addr} {n c2 : Nat} {news : List Value} (hn1 : news.length = n * i.size) (ha2 : 0 < n → ∃ g2 o2, a2 = some ⟨g2, o2, none⟩ ∧ ∀ j u, news[j]? = some u → w.cell? ((⟨g2, o2, none⟩ : Addr).add j) = some u) (hn2 : ∀ u, u ∈ news → u.oneCell' = true)
    (hb : (len + n) * i.bytes ≤ 140737488355328) (hb1 : 1 ≤ i.bytes)
    (hcell : 0 < cap → ∃ cs, w.heap[g]? = some (.cells cs e (0, 0)) ∧ o + cap * i.size ≤ cs.size) (B : Nat → Prop) (hB1 : 0 < cap → B g) (hB2 : ∀ g2 o2, 0 < n → a2 = some ⟨g2, o2, none⟩ → B g2) :
    ∀ ev ∈ (Builtin.append_ #[t, t] ty #[.slice ad len cap, .slice a2 n c2]).events P w #[], ev.readsIn B ∨ (0 < cap ∧ ∃ a, ev.loc = .cell a ∧ a.block = g) ∨ ev.loc = .mark .noRoom := by
  have hnb : len + n ≤ 140737488355328 := by
    have : (len + n) * 1 ≤ (len + n) * i.bytes := Nat.mul_le_mul_left _ hb1
    omega
  have none0 : ∀ ev : Event, ev ∈ (#[] : Array Event) → ev.readsIn B ∨ (0 < cap ∧ ∃ a, ev.loc = .cell a ∧ a.block = g) ∨ ev.loc = .mark .noRoom := fun ev h => absurd h (Array.not_mem_empty _)
  have hsrc : ∀ w' : World, w'.heap = w.heap → 0 < n → ∃ g2 o2, a2 = some ⟨g2, o2, none⟩ ∧ B g2 ∧ ∀ j, j < n * i.size → (w'.cell? ((⟨g2, o2, none⟩ : Addr).add j)).isSome := fun w' hw h0 => by
    obtain ⟨g2, o2, h1, h2⟩ := ha2 h0
    refine ⟨g2, o2, h1, hB2 g2 o2 h0 h1, fun j hj => ?_⟩
    have := isSome_of_list (w := w) h2 (by rw [hn1]; exact hj)
    simpa [World.cell?, hw] using this
  have hold : ∀ w' : World, w'.heap = w.heap → 0 < len → ∃ g2 o2, ad = some ⟨g2, o2, none⟩ ∧ B g2 ∧ ∀ j, j < len * i.size → (w'.cell? ((⟨g2, o2, none⟩ : Addr).add j)).isSome := fun w' hw h0 => by
    refine ⟨g, o, had (by omega), hB1 (by omega), fun j hj => ?_⟩
    have := isSome_of_list (w := w) ho2 (by rw [ho1]; exact hj)
    simpa [World.cell?, hw] using this
  have hfc : ∀ w' : World, w'.heap = w.heap → (Builtin.firstCells i.size n (.slice a2 n c2)).run P w' = .ok news.toArray w' := fun w' hw => by
    rcases Nat.eq_zero_or_pos n with h0 | h0
    · subst h0
      have : news = [] := List.eq_nil_of_length_eq_zero (by simpa using hn1)
      subst this
      cases a2 <;> simp [Builtin.firstCells, loadCells, loadCellsFrom]
    · obtain ⟨g2, o2, rfl, h2⟩ := ha2 h0
      exact run_firstCells_some w' i.size n _ n c2 news hn1 (fun j u hu => by
        have := h2 j u hu
        simpa [World.cell?, hw] using this)
  intro ev hev
  by_cases hroom : len + n ≤ cap
  · rcases Nat.eq_zero_or_pos cap with hc0 | hc0
    · have hl0 : len = 0 := by omega
      have hn0 : n = 0 := by omega
      subst hl0 hn0 hc0
      have : news = [] := List.eq_nil_of_length_eq_zero (by simpa using hn1)
      subst this
      have h1 := hfc w rfl
      have h3 : ev ∈ (Builtin.firstCells i.size 0 (.slice a2 0 c2)).events P w #[] := by
        cases ad <;> simpa [Builtin.append_, run_underlying ht, sizeOf, typeInfo, hi, Builtin.lenOf, h1, storeCells] using hev
      exact (ev_firstCells (hsrc w rfl) ev h3).elim (none0 ev) .inl
    · obtain ⟨cs, hg, hsz⟩ := hcell hc0
      have hfit : o + len * i.size + news.length ≤ cs.size := by
        have : (len + n) * i.size ≤ cap * i.size := Nat.mul_le_mul_right _ hroom
        rw [Nat.add_mul] at this
        omega
      rw [had hc0] at hev
      simp only [Builtin.append_] at hev
      simp [run_underlying ht, sizeOf, typeInfo, hi, Builtin.lenOf, hroom, hfc w rfl, addr_add] at hev
      rcases events_storeCells_at (P := P) g (o + len * i.size) e news 0 cs w _ hg (by simpa using hfit) hn2 ev hev with h | ⟨a', h3, h4⟩
      · exact (ev_firstCells (hsrc w rfl) ev h).elim (none0 ev) .inl
      · exact .inr (.inl ⟨hc0, a', h3, h4⟩)
  · have h63 : ((len + n : Nat) : Int) ≤ 9223372036854775807 := by omega
    have hfits := growslice_fits (need := len + n) (old := cap) (bytes := i.bytes) (by omega) hb
    have hn : ¬ (len + n ≤ cap) := hroom
    have h63' : ¬ (9223372036854775807 < ((len : Int) + (n : Int))) := by omega
    have h48' : ¬ (281474976710656 < Builtin.nextslicecap (len + n) cap * i.bytes) := by omega
    have hfo : (Builtin.firstCells i.size len (.slice ad len cap)).run P w.drew = .ok olds.toArray w.drew := by
      rcases Nat.eq_zero_or_pos len with h0 | h0
      · subst h0
        have : olds = [] := List.eq_nil_of_length_eq_zero (by simpa using ho1)
        subst this
        cases ad <;> simp [Builtin.firstCells, loadCells, loadCellsFrom]
      · rw [had (by omega)]
        exact run_firstCells_some w.drew i.size len _ len cap olds ho1 (fun j u hu => by simpa using ho2 j u hu)
    have hf := hfc w.drew rfl
    simp [Builtin.append_, run_underlying ht, sizeOf, typeInfo, zeroValue, hi, hz, Builtin.lenOf, hn, h63', h48', Question.forced, hf, hfo, newRow] at hev
    refine (ev_firstCells (hsrc w.drew rfl) ev hev).elim (fun h => ?_) .inl
    refine (ev_firstCells (hold w.drew rfl) ev h).elim (fun h2 => ?_) .inl
    refine (Conc.events_askRoom _ _ _ ev h2).elim (none0 ev) fun ⟨m, h3, h4⟩ => .inr (.inr ?_)
    unfold Neutral at h4
    rw [h3, h4]
theorem Src.place {H : List HL} {q : D} {size n : Nat} {get : Nat → Nat → D} (h : Src H q size n get) {I : Nat → Prop} {w : World} {v : Value} (hok : ∀ x, x ∈ H → x.ok I w) (hv : Rd I w q v) (h0 : 0 < n) (hs : 0 < size) {g o c : Nat} (hg : v = .slice (some ⟨g, o, none⟩) n c) : I g ∨ fps H g := by
  by_cases hc : I g ∨ fps H g
  · exact hc
  · exfalso
    have hne : ∀ b, (I b ∨ fps H b) → b ≠ g := fun b hb e => hc (e ▸ hb)
    let w' : World := { w with heap := w.heap.setIfInBounds g (.pending #[] 0) }
    have hw : ∀ b, (I b ∨ fps H b) → w'.heap[b]? = w.heap[b]? := fun b hb => by
      show (w.heap.setIfInBounds g _)[b]? = _
      rw [Array.getElem?_setIfInBounds, if_neg (fun e => hne b hb e.symm)]
    obtain ⟨a, c', e1, e2⟩ := h I w' v (fun x hx => (hok x hx).mono (fun _ h => h) (fun b hb => hw b (.inl hb)) fun b hb => hw b (.inr ⟨x, hx, hb⟩)) (hv.mono (fun _ h => h) fun b hb => hw b (.inl hb))
    rw [hg] at e1
    cases e1
    obtain ⟨g', o', e3, e4⟩ := e2 h0
    cases e3
    obtain ⟨u, e5, _⟩ := e4 0 h0 0 hs
    have : w'.cell? ⟨g, o + (0 * size + 0), none⟩ = none := by
      unfold World.cell?
      show (match (w.heap.setIfInBounds g (Obj.pending #[] 0))[g]? with
        | some (.cells c _ _) => _
        | _ => none) = none
      rw [Array.getElem?_setIfInBounds]
      by_cases hl : g < w.heap.size
      · simp [hl]
      · simp [hl]
    rw [this] at e5
    cases e5
namespace Y
section
variable {X : Cx} {s s' : St} {H0 : List HL} {d : Tmp} {ty : TypeId} {pos : String} {aft : Array Edge} {gd : Option (Nat × Bool)} {x y z : Operand} {xt yt : TypeId} {q : D} {m n : Int} {kd k2 : IntKind}
theorem ef_appendE {t e : TypeId} {size bytes : Nat} {zv : Value} [ht : SlT X.P t e] [hz : ZI X.P e size bytes zv] {β : BK} {r len n : Nat} {c c' : C} {get : Nat → Nat → D} {H : List HL}
    (hx : s.ev x = some (.own β size r len)) (hy : s.ev y = some q) (hrem : Rem s.heap (.one β e size c) H) (hsrc : Src s.heap q size n get) (hcat : Cat size c r len n get c') (hrl : r + len ≤ c.len)
    (hb : (len + n) * bytes ≤ 140737488355328) (hsz : Nat.blt 0 size = true) (hb1 : Nat.blt 0 bytes = true) (hd : Nat.blt d X.nt = true) :
    EffE X ⟨some d, .call { callee := .builtin .append, args := #[x, y], argTypes := #[t, t] }, ty, pos, aft, gd⟩ s [.one β e size c] (fun s2 => ∃ β' : BK, s2 = ⟨(d, .own β' size 0 (len + n)) :: s.env, .one β' e size c' :: H⟩) :=
  ⟨Sx.ef_append hx hy hrem hsrc hcat hrl hb hsz hb1 hd, fun I a w hs => by
    have hmem : HL.one β e size c ∈ s.heap := hrem.perm.mem_iff.2 (List.mem_cons_self ..)
    have hbok : BOk I w β e size c := hs.heap _ hmem
    obtain ⟨i, h1, h2, h3, h4, h5, h6⟩ := hz.h
    obtain ⟨a2, c2, hy1, hy2⟩ := hsrc I w _ hs.heap (hs.ev hy)
    obtain ⟨ad, cap, hx1, g1, g2, g3, g4⟩ := hs.ev hx
    obtain ⟨olds, o1, o2, o3, o4⟩ : ∃ olds : List Value, olds.length = len * size ∧ (∀ j u, olds[j]? = some u → w.cell? ((⟨β.b, β.o + r * size, none⟩ : Addr).add j) = some u) ∧ (∀ u, u ∈ olds → u.oneCell' = true) ∧
        ∀ e', e' < len → ∀ f, f < size → ∃ u, olds[e' * size + f]? = some u ∧ u.oneCell' = true ∧ Rd I w (c'.get e' f) u :=
      list_cells fun e' he' f hf => by
        obtain ⟨u, hu, ho, hr⟩ := hbok.cell (show e' + r < c.len by omega) hf
        exact ⟨u, by rw [show β.o + r * size + (e' * size + f) = β.o + ((e' + r) * size + f) by rw [Nat.add_mul]; omega]; exact hu, ho, by rw [hcat.hold e' f he' hf]; exact hr⟩
    have hyy : 0 < n → ∃ g o, a2 = some ⟨g, o, none⟩ ∧ (I g ∨ fps s.heap g) := fun h0 => by
      obtain ⟨g, o, k1, k2⟩ := hy2 h0
      exact ⟨g, o, k1, Src.place hsrc hs.heap (hs.ev hy) h0 (blt_lt hsz) (by rw [hy1, k1])⟩
    obtain ⟨news, n1, n2, n3⟩ : ∃ news : List Value, news.length = n * size ∧ (0 < n → ∃ g o, a2 = some ⟨g, o, none⟩ ∧ ∀ j u, news[j]? = some u → w.cell? ((⟨g, o, none⟩ : Addr).add j) = some u) ∧ (∀ u, u ∈ news → u.oneCell' = true) := by
      rcases Nat.eq_zero_or_pos n with h0 | h0
      · subst h0
        exact ⟨[], by simp, fun h => absurd h (by omega), by simp⟩
      · obtain ⟨g, o, ha, hc⟩ := hy2 h0
        obtain ⟨vs, v1, v2, v3, v4⟩ := list_cells (get := fun e' f => c'.get (len + e') f) fun e' he' f hf => by
          obtain ⟨u, hu, ho, hr⟩ := hc e' he' f hf
          exact ⟨u, hu, ho, by show Rd I w (c'.get (len + e') f) u; rw [hcat.hnew e' f he' hf]; exact hr⟩
        exact ⟨vs, v1, fun _ => ⟨g, o, ha, v2⟩, v3⟩
    refine ⟨?_, fun w' xx hr ev hev => ?_⟩
    · simp only [execOp, resolve, invoke, builtin, Sem.run_bind, Sem.run_pure, Result.andThen_ok]
      exact atOnce_then (f := Next.value) fun x => ⟨fun _ _ e => (by cases e), fun _ _ e => (by cases e)⟩
    · rw [events_append_op x y t rfl hx1 hy1] at hev
      have hpos : 0 < cap → fps s.heap β.b := fun h => ⟨_, hmem, by omega, rfl⟩
      rcases ev_append_all (P := X.P) (w := w) (ty := ty) ht.h h1 h2 (ad := ad) (cap := cap) g1 g4 (olds := olds) (by rw [o1, h3]) o2 (a2 := a2) (c2 := c2) (news := news) (by rw [n1, h3]) n2 n3 (by rw [h4]; exact hb) (by rw [h4]; exact blt_lt hb1)
        (fun hc0 => by
          obtain ⟨cs, e1, e2, _⟩ := hbok.2 (by omega)
          refine ⟨cs, e1, ?_⟩
          have : (r + cap) * size ≤ β.s * size := Nat.mul_le_mul_right _ g3
          rw [Nat.add_mul] at this
          rw [e2, h3]
          omega) (fun b => I b ∨ fps s.heap b) (fun h => .inr (hpos h)) (fun g2 o2 h0 h => by
            obtain ⟨g, o, k1, k2⟩ := hyy h0
            rw [k1] at h
            cases h
            exact k2) ev hev with ⟨ad', k1, k2, k3⟩ | ⟨k0, ad', k1, k2⟩ | k1
      · exact .inl ⟨ad', k1, k3.elim (fun h => .inl ⟨k2, h⟩) fun h => .inr (.inl h)⟩
      · exact .inl ⟨ad', k1, .inr (.inl (by rw [k2]; exact hpos k0))⟩
      · exact .inr (.inr k1)⟩
end
end Y
end Go.Proofs.Ytkfmphlnpmemdaa.Sx
