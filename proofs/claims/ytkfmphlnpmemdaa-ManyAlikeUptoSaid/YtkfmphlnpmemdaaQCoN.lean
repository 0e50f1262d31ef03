import Derived.Test.YtkfmphlnpmemdaaQCoM
import Derived.Test.YtkfmphlnpmemdaaQTys
set_option linter.unusedVariables false
set_option linter.unusedSimpArgs false
namespace Go.Proofs.Ytkfmphlnpmemdaa.Sx
open Go Go.Conc
section
variable {P : Program} {w : World}
theorem ev_getMap {r : Nat} {vs : Array MapEntry} {clock : Nat} (hb : w.heap[r]? = some (.map vs clock)) (es : Array Event) : (getObj r).events P w es = es.push ⟨.obj r, false, false⟩ := by
  simp [getObj, Sem.events, Sem.runT, hb, Obj.isChan, -Sem.runT_eq]
theorem ev_setMap {r : Nat} {vs : Array MapEntry} {clock : Nat} (o : Obj) (ho : o.isChan = false) (hb : w.heap[r]? = some (.map vs clock)) (es : Array Event) : (setObj r o).events P w es = es.push ⟨.obj r, true, false⟩ := by
  simp [setObj, Sem.events, Sem.runT, hb, ho, -Sem.runT_eq]
theorem ev_checkIntN {t : TypeId} {k : Int} (e : Bool) (n : Nat) (ht : P.underlying t = some (.int .i64)) (es : Array Event) : (Instr.checkKey e (n + 1) t (.int .i64 k)).events P w es = es := by
  simp [Instr.checkKey, run_underlying ht]
theorem ev_checkInt {t : TypeId} {k : Int} (e : Bool) (ht : P.underlying t = some (.int .i64)) (es : Array Event) : (Instr.checkKey e 10000 t (.int .i64 k)).events P w es = es := ev_checkIntN e 9999 ht es
theorem ev_findInt {t : TypeId} {k : Int} {vs : List MapEntry} {r : Option (Nat × Value)} (ht : P.underlying t = some (.int .i64)) (hf : Instr.findNow (.int .i64) (.int .i64 k) vs 0 = some r) (es : Array Event) : (Instr.findKey t (.int .i64 k) vs).events P w es = es := by
  simp [Instr.findKey, run_underlying ht, hf]
end
theorem evE_obj {I F : Nat → Prop} {n n' r : Nat} {wr : Bool} (h : F r) : EvE I F n n' ⟨.obj r, wr, false⟩ := .inr (.inl ⟨r, rfl, rfl, .inl h⟩)
namespace Y
theorem ResD.le {X : Cx} {s : St} {r : ResultVar} {d d' : D} (h : ResD X s r d) (hl : DLe d d') : ResD X s r d' := ⟨Sx.ResD.le h.1 hl, h.2⟩
section
variable {X : Cx} {s s' : St} {H0 : List HL} {d : Tmp} {ty : TypeId} {pos : String} {aft : Array Edge} {gd : Option (Nat × Bool)} {x y z : Operand} {xt yt : TypeId} {q : D} {m n : Int}
theorem ef_makeMapE {t : TypeId} (hd : Nat.blt d X.nt = true) :
    EffE X ⟨some d, .makeMap t none, ty, pos, aft, gd⟩ s [] (fun s2 => ∃ β : BK, s2 = ⟨(d, .v (.map (some β.b))) :: s.env, .mp β [] :: s.heap⟩) :=
  quietE (Sx.ef_makeMap hd) fun I a w hs => ⟨atOnce_v, by simp [execOp, Instr.makeMap]⟩
theorem ef_lookupE {t kt et : TypeId} {size bytes : Nat} [ht : MapT X.P t kt et] [hk : IntT X.P kt .i64] [hz : ZI X.P et size bytes (.int .i64 0)] {β : BK} {es : List (Int × Int)} {k : Int} {H : List HL}
    (hx : s.ev x = some (.v (.map (some β.b)))) (hy : s.ev y = some (.v (.int .i64 k))) (hm : At s.heap (.mp β es) (.mp β es) H) (hd : Nat.blt d X.nt = true) :
    EffE X ⟨some d, .lookup t x y true, ty, pos, aft, gd⟩ s [] (fun s2 => s2 = s.put d (.tp 2 (nth [.v (.int .i64 ((mget es k).getD 0)), .v (.bool (mget es k).isSome)]))) :=
  ⟨Sx.ef_lookup hx hy hm hd, fun I a w hs => ⟨atOnce_v, fun w' xx hr ev hev => by
    obtain ⟨i, z1, z2, z3, z4, z5, z6⟩ := hz.h
    have e1 : a.eval x = .map (some β.b) := hs.ev hx
    have e2 : a.eval y = .int .i64 k := hs.ev hy
    obtain ⟨vs, clock, h1, h2⟩ : (HL.mp β es).ok I w := hs.heap _ hm.mem
    have hF : fps s.heap β.b := ⟨_, hm.mem, rfl⟩
    have : ev = ⟨.obj β.b, false, false⟩ := by
      rcases findNow_mp k vs.toList es 0 h2 with ⟨g1, g2, _⟩ | ⟨j, b, g1, g2, _, _⟩
      · simpa [execOp, e1, e2, Instr.lookup, run_underlying ht.h, run_getMap h1, ev_getMap h1, run_checkInt _ hk.h, ev_checkInt _ hk.h, run_findInt hk.h g2, ev_findInt hk.h g2, zeroValue, typeInfo, z1, z2] using hev
      · simpa [execOp, e1, e2, Instr.lookup, run_underlying ht.h, run_getMap h1, ev_getMap h1, run_checkInt _ hk.h, ev_checkInt _ hk.h, run_findInt hk.h g2, ev_findInt hk.h g2] using hev
    rw [this]
    exact evE_obj hF⟩⟩
theorem mapSetE {t kt et : TypeId} [ht : MapT X.P t kt et] [hk : IntT X.P kt .i64] {β : BK} {es : List (Int × Int)} {k v : Int} {H : List HL} {op : Op} (hop : op = .mapUpdate t x y z ∨ op = .insert t x y z)
    (hx : s.ev x = some (.v (.map (some β.b)))) (hy : s.ev y = some (.v (.int .i64 k))) (hv : s.ev z = some (.v (.int .i64 v))) (hm : At s.heap (.mp β es) (.mp β (mset es k v)) H) :
    EffE X ⟨none, op, ty, pos, aft, gd⟩ s [.mp β es] (fun s2 => s2 = ⟨s.env, H⟩) :=
  ⟨mapSet_core hop hx hy hv hm, fun I a w hs => ⟨by rcases hop with rfl | rfl <;> exact atOnce_u, fun w' xx hr ev hev => by
    have e1 : a.eval x = .map (some β.b) := hs.ev hx
    have e2 : a.eval y = .int .i64 k := hs.ev hy
    have e3 : a.eval z = .int .i64 v := hs.ev hv
    obtain ⟨vs, clock, h1, h2⟩ : (HL.mp β es).ok I w := hs.heap _ hm.mem
    have hF : fps s.heap β.b := ⟨_, hm.mem, rfl⟩
    have hev' : ev ∈ (Instr.mapUpdate t (.map (some β.b)) (.int .i64 k) (.int .i64 v)).events X.P w #[] := by
      rcases hop with rfl | rfl <;> simp only [execOp, e1, e2, e3, Sem.events_bind] at hev <;> revert hev <;> cases (Instr.mapUpdate t (.map (some β.b)) (.int .i64 k) (.int .i64 v)).run X.P w <;> exact id
    have : ev = ⟨.obj β.b, false, false⟩ ∨ ev = ⟨.obj β.b, true, false⟩ := by
      rcases findNow_mp k vs.toList es 0 h2 with ⟨g1, g2, g3⟩ | ⟨j, b, g1, g2, ⟨bo, g3⟩, g4⟩
      · simp [Instr.mapUpdate, run_underlying ht.h, run_getMap h1, ev_getMap h1, run_checkInt _ hk.h, ev_checkInt _ hk.h, run_findInt hk.h g2, ev_findInt hk.h g2] at hev'
        rw [ev_setMap _ rfl h1] at hev'
        simpa using hev'
      · have hj : vs[j]? = some ⟨.int .i64 k, .int .i64 b, bo⟩ := by simpa using g3
        simp [Instr.mapUpdate, run_underlying ht.h, run_getMap h1, ev_getMap h1, run_checkInt _ hk.h, ev_checkInt _ hk.h, run_findInt hk.h g2, ev_findInt hk.h g2, hj, Instr.keyThatStays, Instr.sameBits] at hev'
        rw [ev_setMap _ rfl h1] at hev'
        simpa using hev'
    rcases this with rfl | rfl <;> exact evE_obj hF⟩⟩
theorem ef_clearE {t e : TypeId} {size bytes : Nat} {zv : Value} [ht : SlT X.P t e] [hz : ZI X.P e size bytes zv] {β : BK} {r n : Nat} {c : C} {H : List HL} (hx : s.ev x = some (.own β size r n)) (hm : At s.heap (.one β e size c) (.one β e size c) H) (hr : c.len ≤ r) (hsz : 0 < size) :
    EffE X ⟨none, .call { callee := .builtin .clear, args := #[x], argTypes := #[t] }, ty, pos, aft, gd⟩ s [.one β e size c] (fun s2 => s2 = ⟨s.env, H⟩) :=
  ⟨Sx.ef_clear hx hm hr hsz, fun I a w hs => ⟨by
    simp only [execOp, resolve, invoke, builtin, Sem.run_bind, Sem.run_pure, Result.andThen_ok]
    exact atOnce_then (f := Next.value) fun x => ⟨fun _ _ e => (by cases e), fun _ _ e => (by cases e)⟩, fun w' xx hrr ev hev => by
    obtain ⟨inf, h1, h2, h3, h4, h5, h6⟩ := hz.h
    obtain ⟨ad, cap, hx1, g1, g2, g3, g4⟩ := hs.ev hx
    have hb : BOk I w β e size c := hs.heap _ hm.mem
    have hev' : ev ∈ (Builtin.clear_ #[t] ty #[.slice ad n cap]).events X.P w #[] := by
      simp only [execOp, resolve, invoke, builtin, Sem.events_bind, Sem.run_bind, Sem.run_pure, Sem.events_pure, Result.evThen, Result.andThen_ok, List.map_toArray, List.map_cons, List.map_nil, hx1] at hev
      revert hev
      cases (Builtin.clear_ #[t] ty #[.slice ad n cap]).run X.P w <;> exact id
    rcases Nat.eq_zero_or_pos n with hn | hn
    · subst hn
      exfalso
      cases ad <;> simp [Builtin.clear_, run_underlying ht.h] at hev'
    · have hpos : 0 < β.s := by omega
      obtain ⟨cs, k1, k2, k3⟩ := hb.2 hpos
      have hzs : (Builtin.zeroCells zv.cells n).size = n * size := by rw [size_zeroCells, h5]
      have hone : ∀ u, u ∈ (Builtin.zeroCells zv.cells n).toList → u.oneCell' = true := fun u hu => by
        simp only [Builtin.zeroCells, Array.toList_map, List.mem_map, Array.toList_range, List.mem_range] at hu
        obtain ⟨k, hk, rfl⟩ := hu
        have hlt : k % zv.cells.size < zv.cells.size := Nat.mod_lt _ (by omega)
        rw [getElem!_pos zv.cells _ hlt]
        exact h6 _ (by simp)
      have hfit : β.o + r * size + (Builtin.zeroCells zv.cells n).toList.length ≤ cs.size := by
        have : (r + n) * size ≤ β.s * size := Nat.mul_le_mul_right _ (by omega)
        rw [Nat.add_mul] at this
        rw [Array.length_toList, hzs, k2]; omega
      have had := g4 (by omega)
      have hev2 : ev ∈ (storeCells ⟨β.b, β.o + r * size, none⟩ (Builtin.zeroCells zv.cells n).toList 0).events X.P w #[] := by
        rw [had] at hev'
        obtain ⟨n', rfl⟩ : ∃ n', n = n' + 1 := ⟨n - 1, by omega⟩
        simp only [Builtin.clear_, Sem.events_bind, Sem.run_bind, run_underlying ht.h, events_underlying, Result.evThen_ok, Result.andThen_ok, zeroValue, typeInfo, h1, h2] at hev'
        revert hev'
        simp [run_underlying ht.h, zeroValue, typeInfo, h1, h2]
      rcases events_storeCells_at (P := X.P) β.b (β.o + r * size) e (Builtin.zeroCells zv.cells n).toList 0 cs w #[] k1 (by simpa using hfit) hone ev hev2 with h | ⟨ad', q1, q2⟩
      · exact absurd h (Array.not_mem_empty _)
      · exact .inl ⟨ad', q1, .inr (.inl (by rw [q2]; exact ⟨_, hm.mem, hpos, rfl⟩))⟩⟩⟩
theorem ef_appendInE {t e : TypeId} {size bytes : Nat} {zv : Value} [ht : SlT X.P t e] [hz : ZI X.P e size bytes zv] {β : BK} {ad : Option Addr} {i m j n : Nat} {c c' : C} {H : List HL} (hE : Exact β i ad m)
    (hx : s.ev x = some (.v (.slice ad i m))) (hy : s.ev y = some (.own β size j n)) (hm : At s.heap (.one β e size c) (.one β e size c') H) (hcat : Cat size c 0 i n (fun e f => c.get (e + j) f) c')
    (hj : j + n ≤ c.len) (hi : i ≤ c.len) (hroom : i + n ≤ m) (h0 : 0 < m) (hb : (i + n) * bytes ≤ 140737488355328) (hb1 : 1 ≤ bytes) (hd : Nat.blt d X.nt = true) :
    EffE X ⟨some d, .call { callee := .builtin .append, args := #[x, y], argTypes := #[t, t] }, ty, pos, aft, gd⟩ s [.one β e size c] (fun s2 => s2 = ⟨(d, .v (.slice ad (i + n) m)) :: s.env, H⟩) :=
  ⟨Sx.ef_appendIn hE hx hy hm hcat hj hi hroom h0 hb hb1 hd, fun I a w hs => by
    obtain ⟨inf, h1, h2, h3, h4, h5, h6⟩ := hz.h
    have hx1 : a.eval x = .slice ad i m := hs.ev hx
    have hft := hE.fit
    have hpos : 0 < β.s := by omega
    have hbok : BOk I w β e size c := hs.heap _ hm.mem
    obtain ⟨cs1, e1, e2, e3⟩ := hbok.2 hpos
    have hmc : m * size ≤ β.s * size := Nat.mul_le_mul_right _ hft
    obtain ⟨a2, c2, hy1, q5, hy2⟩ : ∃ a2 c2, a.eval y = .slice a2 n c2 ∧ (0 < n → a2 = some ⟨β.b, β.o + j * size, none⟩) ∧ (0 < n → ∃ g o, a2 = some ⟨g, o, none⟩ ∧ ∀ e', e' < n → ∀ f, f < size → ∃ u, w.cell? ⟨g, o + (e' * size + f), none⟩ = some u ∧ u.oneCell' = true ∧ Rd I w (c.get (e' + j) f) u) := by
      obtain ⟨a2, c2, q1, q2, q3, q4, q5⟩ := hs.ev hy
      refine ⟨a2, c2, q1, fun hn => q5 (by omega), fun hn => ⟨β.b, β.o + j * size, q5 (by omega), fun e' he' f hf => ?_⟩⟩
      obtain ⟨u, hu, ho, hr⟩ := hbok.cell (show e' + j < c.len by omega) hf
      exact ⟨u, by rw [show β.o + j * size + (e' * size + f) = β.o + ((e' + j) * size + f) by rw [Nat.add_mul]; omega]; exact hu, ho, hr⟩
    obtain ⟨olds, o1, o2, o3, o4⟩ : ∃ olds : List Value, olds.length = i * size ∧ (∀ k u, olds[k]? = some u → w.cell? ((⟨β.b, β.o, none⟩ : Addr).add k) = some u) ∧ (∀ u, u ∈ olds → u.oneCell' = true) ∧
        ∀ e', e' < i → ∀ f, f < size → ∃ u, olds[e' * size + f]? = some u ∧ u.oneCell' = true ∧ Rd I w (c'.get e' f) u :=
      list_cells fun e' he' f hf => by
        obtain ⟨u, hu, ho, hr⟩ := hbok.cell (show e' < c.len by omega) hf
        exact ⟨u, hu, ho, by rw [hcat.hold e' f he' hf]; exact hr⟩
    obtain ⟨news, n1, n2, n3⟩ : ∃ news : List Value, news.length = n * size ∧ (0 < n → ∃ g o, a2 = some ⟨g, o, none⟩ ∧ ∀ k u, news[k]? = some u → w.cell? ((⟨g, o, none⟩ : Addr).add k) = some u) ∧ (∀ u, u ∈ news → u.oneCell' = true) := by
      rcases Nat.eq_zero_or_pos n with hn0 | hn0
      · subst hn0
        exact ⟨[], by simp, fun h => absurd h (by omega), by simp⟩
      · obtain ⟨g, o, ha, hc⟩ := hy2 hn0
        obtain ⟨vs, v1, v2, v3, v4⟩ := list_cells (get := fun e' f => c'.get (i + e') f) fun e' he' f hf => by
          obtain ⟨u, hu, ho, hr⟩ := hc e' he' f hf
          exact ⟨u, hu, ho, by show Rd I w (c'.get (i + e') f) u; rw [hcat.hnew e' f he' hf]; exact hr⟩
        exact ⟨vs, v1, fun _ => ⟨g, o, ha, v2⟩, v3⟩
    have hF : fps s.heap β.b := ⟨_, hm.mem, hpos, rfl⟩
    refine ⟨?_, fun w' xx hr ev hev => ?_⟩
    · simp only [execOp, resolve, invoke, builtin, Sem.run_bind, Sem.run_pure, Result.andThen_ok]
      exact atOnce_then (f := Next.value) fun x => ⟨fun _ _ e => (by cases e), fun _ _ e => (by cases e)⟩
    · rw [events_append_op x y t rfl hx1 hy1] at hev
      rcases ev_append_all (P := X.P) (w := w) (ty := ty) ht.h h1 h2 (ad := ad) (cap := m) hE.le hE.place (olds := olds) (by rw [o1, h3]) o2 (a2 := a2) (c2 := c2) (news := news) (by rw [n1, h3]) n2 n3 (by rw [h4]; exact hb) (by rw [h4]; exact hb1)
        (fun hc0 => ⟨cs1, e1, by rw [e2, h3]; omega⟩) (fun b => b = β.b) (fun h => rfl) (fun g2 o2 h0 h => by
            rw [q5 h0] at h
            cases h
            rfl) ev hev with ⟨ad', k1, k2, k3⟩ | ⟨k0, ad', k1, k2⟩ | k1
      · exact .inl ⟨ad', k1, .inr (.inl (by rw [show ad'.block = β.b from k3]; exact hF))⟩
      · exact .inl ⟨ad', k1, .inr (.inl (by rw [k2]; exact hF))⟩
      · exact .inr (.inr k1)⟩
theorem ef_appendZE {t tn e : TypeId} {size bytes : Nat} {zv : Value} {kn k : IntKind} {m : Int} [ht : SlT X.P t e] [hn : IntT X.P tn kn] [hz : ZI X.P e size bytes zv] (hx : s.ev x = some (.v (.slice none 0 0))) (hy : s.ev y = some (.v (.int k m))) (h : 1 ≤ m ∧ m ≤ 10000000000)
    (hsz : Nat.blt 0 size = true) (hb : Nat.ble bytes 100 = true) (hd : Nat.blt d X.nt = true) :
    EffE X ⟨some d, .call { callee := .builtin .append, args := #[x, y], argTypes := #[t, tn] }, ty, pos, aft, gd⟩ s [] (fun s2 => ∃ β : BK, s2 = ⟨(d, .own β size 0 m.toNat) :: s.env, .one β e size ⟨m.toNat, fun _ f => .v (zv.cells.getD f undef)⟩ :: s.heap⟩) :=
  ⟨Sx.ef_appendZ hx hy h hsz hb hd, fun I a w hs => ⟨by
    simp only [execOp, resolve, invoke, builtin, Sem.run_bind, Sem.run_pure, Result.andThen_ok]
    exact atOnce_then (f := Next.value) fun x => ⟨fun _ _ e => (by cases e), fun _ _ e => (by cases e)⟩, fun w' xx hr ev hev => by
    obtain ⟨i, h1, h2, h3, h4, h5, h6⟩ := hz.h
    have e1 : a.eval x = .slice none 0 0 := hs.ev hx
    have e2 : a.eval y = .int k m := hs.ev hy
    have hev' : ev ∈ (Builtin.append_ #[t, tn] ty #[.slice none 0 0, .int k m]).events X.P w #[] := by
      simp only [execOp, resolve, invoke, builtin, Sem.events_bind, Sem.run_bind, Sem.run_pure, Sem.events_pure, Result.evThen, Result.andThen_ok, List.map_toArray, List.map_cons, List.map_nil, e1, e2] at hev
      revert hev
      cases (Builtin.append_ #[t, tn] ty #[.slice none 0 0, .int k m]).run X.P w <;> exact id
    have hb' := Nat.le_of_ble_eq_true hb
    have em : m = (m.toNat : Int) := by omega
    have hmul : m.toNat * i.bytes ≤ 10000000000 * 100 := Nat.mul_le_mul (by omega) (by rw [h4]; exact hb')
    generalize hnn : m.toNat = n at em hmul
    have hw : IntKind.i64.wrap (n : Int) = n := by rw [IntKind.wrap_i64]; omega
    have h63' : ¬ (9223372036854775807 < (n : Int)) := by omega
    have h48' : ¬ (281474976710656 < Builtin.nextslicecap n 0 * i.bytes) := by rw [nextslicecap_zero (by omega)]; omega
    have h48i : ¬ (281474976710656 < (n : Int) * (i.bytes : Int)) := by
      rw [← Int.natCast_mul]
      omega
    have hneg : ¬ ((n : Int) < 0) := by omega
    have hn0 : n ≠ 0 := by omega
    rw [em] at hev'
    simp [Builtin.append_, run_underlying ht.h, run_underlying hn.h, sizeOf, typeInfo, zeroValue, asInt, asIntOf, h1, h2, hn0, hw, h63', h48', h48i, hneg, Question.forced, newRow] at hev'
    refine (Conc.events_askRoom _ _ _ ev hev').elim (fun h => absurd h (Array.not_mem_empty _)) fun ⟨m, h3, h4⟩ => .inr (.inr ?_)
    unfold Neutral at h4
    rw [h3, h4]⟩⟩
end
end Y
theorem ev_convert_string_bytes {P : Program} (w : World) (src dst e : TypeId) (z : ByteArray) (hs : P.underlying src = some .string) (hd : P.underlying dst = some (.slice e)) (he : P.underlying e = some (.int .u8)) (es : Array Event) :
    (convert src dst (.string z)).events P w es = es := by
  have hf : ∀ (a : Addr) (n : Nat) (w : World) (es : Array Event), (freeze a n).events P w es = es := fun _ _ _ _ => rfl
  have hsh : ∀ c : Array Value, (w.drew.alloc (.cells c e)).shape? w.heap.size = some (e, c.size) := by
    intro c
    simp [World.shape?, World.alloc, World.drew, -World.alloc_eq, -World.drew_eq]
  simp [convert, run_underlying hs, run_underlying hd, run_underlying he, Conv.stringToBytes, newRow, markStringish, Question.forced, hsh, hf]
namespace Y
section
variable {Y : Cy} {s s' : St} {H0 : List HL} {d : Tmp} {ty : TypeId} {pos : String} {aft : Array Edge} {gd : Option (Nat × Bool)} {x y z : Operand} {xt yt : TypeId} {q : D} {m n : Int}
theorem ef_makeMap {t : TypeId} (hd : Nat.blt d Y.nt = true) :
    EffO Y ⟨some d, .makeMap t none, ty, pos, aft, gd⟩ s [] (fun s2 => ∃ β : BK, s2 = ⟨(d, .v (.map (some β.b))) :: s.env, .mp β [] :: s.heap⟩) := EffO.of fun {w I tb} => ef_makeMapE hd
theorem ef_lookup {t kt et : TypeId} {size bytes : Nat} [ht : MapT Y.P t kt et] [hk : IntT Y.P kt .i64] [hz : ZI Y.P et size bytes (.int .i64 0)] {β : BK} {es : List (Int × Int)} {k : Int} {H : List HL}
    (hx : s.ev x = some (.v (.map (some β.b)))) (hy : s.ev y = some (.v (.int .i64 k))) (hm : At s.heap (.mp β es) (.mp β es) H) (hd : Nat.blt d Y.nt = true) :
    EffO Y ⟨some d, .lookup t x y true, ty, pos, aft, gd⟩ s [] (fun s2 => s2 = s.put d (.tp 2 (nth [.v (.int .i64 ((mget es k).getD 0)), .v (.bool (mget es k).isSome)]))) := EffO.of fun {w I tb} => ef_lookupE (kt := kt) (et := et) hx hy hm hd
theorem ef_mapSet {t kt et : TypeId} [ht : MapT Y.P t kt et] [hk : IntT Y.P kt .i64] {β : BK} {es : List (Int × Int)} {k v : Int} {H : List HL}
    (hx : s.ev x = some (.v (.map (some β.b)))) (hy : s.ev y = some (.v (.int .i64 k))) (hv : s.ev z = some (.v (.int .i64 v))) (hm : At s.heap (.mp β es) (.mp β (mset es k v)) H) :
    EffO Y ⟨none, .mapUpdate t x y z, ty, pos, aft, gd⟩ s [.mp β es] (fun s2 => s2 = ⟨s.env, H⟩) := EffO.of fun {w I tb} => mapSetE (kt := kt) (et := et) (.inl rfl) hx hy hv hm
theorem ef_mapIns {t kt et : TypeId} [ht : MapT Y.P t kt et] [hk : IntT Y.P kt .i64] {β : BK} {es : List (Int × Int)} {k v : Int} {H : List HL}
    (hx : s.ev x = some (.v (.map (some β.b)))) (hy : s.ev y = some (.v (.int .i64 k))) (hv : s.ev z = some (.v (.int .i64 v))) (hm : At s.heap (.mp β es) (.mp β (mset es k v)) H) :
    EffO Y ⟨none, .insert t x y z, ty, pos, aft, gd⟩ s [.mp β es] (fun s2 => s2 = ⟨s.env, H⟩) := EffO.of fun {w I tb} => mapSetE (kt := kt) (et := et) (.inr rfl) hx hy hv hm
theorem ef_clear {t e : TypeId} {size bytes : Nat} {zv : Value} [ht : SlT Y.P t e] [hz : ZI Y.P e size bytes zv] {β : BK} {r n : Nat} {c : C} {H : List HL} (hx : s.ev x = some (.own β size r n)) (hm : At s.heap (.one β e size c) (.one β e size c) H) (hr : c.len ≤ r) (hsz : 0 < size) :
    EffO Y ⟨none, .call { callee := .builtin .clear, args := #[x], argTypes := #[t] }, ty, pos, aft, gd⟩ s [.one β e size c] (fun s2 => s2 = ⟨s.env, H⟩) := EffO.of fun {w I tb} => ef_clearE hx hm hr hsz
theorem ef_appendIn {t e : TypeId} {size bytes : Nat} {zv : Value} [ht : SlT Y.P t e] [hz : ZI Y.P e size bytes zv] {β : BK} {ad : Option Addr} {i m j n : Nat} {c c' : C} {H : List HL} (hE : Exact β i ad m)
    (hx : s.ev x = some (.v (.slice ad i m))) (hy : s.ev y = some (.own β size j n)) (hm : At s.heap (.one β e size c) (.one β e size c') H) (hcat : Cat size c 0 i n (fun e f => c.get (e + j) f) c')
    (hj : j + n ≤ c.len) (hi : i ≤ c.len) (hroom : i + n ≤ m) (h0 : 0 < m) (hb : (i + n) * bytes ≤ 140737488355328) (hb1 : 1 ≤ bytes) (hd : Nat.blt d Y.nt = true) :
    EffO Y ⟨some d, .call { callee := .builtin .append, args := #[x, y], argTypes := #[t, t] }, ty, pos, aft, gd⟩ s [.one β e size c] (fun s2 => s2 = ⟨(d, .v (.slice ad (i + n) m)) :: s.env, H⟩) := EffO.of fun {w I tb} => ef_appendInE hE hx hy hm hcat hj hi hroom h0 hb hb1 hd
theorem ef_appendZ {t tn e : TypeId} {size bytes : Nat} {zv : Value} {kn k : IntKind} {m : Int} [ht : SlT Y.P t e] [hn : IntT Y.P tn kn] [hz : ZI Y.P e size bytes zv] (hx : s.ev x = some (.v (.slice none 0 0))) (hy : s.ev y = some (.v (.int k m))) (h : 1 ≤ m ∧ m ≤ 10000000000)
    (hsz : Nat.blt 0 size = true) (hb : Nat.ble bytes 100 = true) (hd : Nat.blt d Y.nt = true) :
    EffO Y ⟨some d, .call { callee := .builtin .append, args := #[x, y], argTypes := #[t, tn] }, ty, pos, aft, gd⟩ s [] (fun s2 => ∃ β : BK, s2 = ⟨(d, .own β size 0 m.toNat) :: s.env, .one β e size ⟨m.toNat, fun _ f => .v (zv.cells.getD f undef)⟩ :: s.heap⟩) := EffO.of fun {w I tb} => ef_appendZE (kn := kn) hx hy h hsz hb hd
end
section
variable {Y : Cy} {fn : Func} {R : Value → World → (Nat → Prop) → Prop} {k : List It} {s s' : St} {all : Array Oper} {H0 : List HL} {p p1 p2 : Plan} {i j j0 : Nat}
theorem step_oneG {o : Oper} {wr r : List HL} {next : St → Prop} (hi : all[i]? = some o) (hg : Lets Y all s o.guard) (he : EffG Y o s wr next) (ht : Take s.heap (wr ++ H0) r) {H1 : List HL} (hH : ∀ b, fps H1 b → fps H0 b) (h : ∀ s', next s' → GoP Y fn R all H1 p k s')
    {I : Nat → Prop} {a : Act} {w wR : World} {O : Nat → Prop} {f : Nat} {listed : Array Bool} (hs : SatY Y I s a w O) (hS : SHO Y I H0 wR w O) (hns : Region.noSelect all = true)
    (hp : planOk all p f listed = true) : opiO Y.P Y.main Y.Im all i (fun a' w' O' => SHO Y I H1 wR w' O' ∧ anyO Y.P Y.main Y.Im .any all (Kont Y fn R k) (fun _ => SHO Y I H1 wR) f listed a' w' O') a w O := by
  unfold opiO
  simp only [hi, hg.wanted hs, if_true]
  refine opO_mono ?_ (he I a w O hs)
  rintro a' w' O' ⟨hk, s', hn, I', hII, hs'⟩
  have hS0 := SHO.step hs hS ht hk
  have hS' : SHO Y I H1 wR w' O' := fun b hb => hS0 b (hb.imp id (hH b))
  have hSI : SHO Y I' H1 w' w' O' := fun b hb => ⟨rfl, hb.elim (fun h => (hs'.tab.2 b h).1) fun h => (hS' b (.inr h)).2.1, hb.elim (fun h => hs'.imO h) fun h => (hS' b (.inr h)).2.2⟩
  refine ⟨hS', anyO_weak (G := fun _ => True) (fun _ _ _ => trivial) (fun L w1 O1 _ hv b hb => ?_) f listed a' w' O' trivial ((h s' hn).run I' a' w' O' w' f listed hs' hSI hns hp)⟩
  have h1 := hv b (hb.imp (hII b) id)
  exact ⟨h1.1.trans (hS' b hb).1, h1.2⟩
theorem GoP.oneG {o : Oper} {wr r : List HL} {next : St → Prop} (hi : all[i]? = some o) (hg : Lets Y all s o.guard) (he : EffG Y o s wr next) (ht : Take s.heap (wr ++ H0) r) (h : ∀ s', next s' → GoP Y fn R all H0 p k s') :
    GoP Y fn R all H0 (.one i p) k s :=
  ⟨fun I a w O wR fuel listed hs hS hns hp => by
    cases fuel with
    | zero => simp [planOk] at hp
    | succ f =>
      simp only [planOk, Bool.and_eq_true, decide_eq_true_eq] at hp
      refine ⟨fun h0 => absurd (hp.1 ▸ h0) (by simp), fun i' hi' => ?_⟩
      have : i' = i := by rw [hp.1] at hi'; simpa using hi'
      subst this
      exact step_oneG hi hg he ht (fun _ h => h) h hs hS hns hp.2⟩
theorem GoP.oneCG {o : Oper} {wr r : List HL} {post : D → List HL → Prop} {F : D → List HL → St} (hi : all[i]? = some o) (hg : Lets Y all s o.guard) (he : EffG Y o s wr (fun s2 => ∃ r H', post r H' ∧ s2 = F r H')) (ht : Take s.heap (wr ++ H0) r)
    (h : ∀ r H', post r H' → GoP Y fn R all H0 p k (F r H')) : GoP Y fn R all H0 (.one i p) k s := GoP.oneG hi hg he ht fun _ ⟨r, H', hp, e⟩ => e ▸ h r H' hp
theorem Eff.pure {o : Oper} {H1 : List HL} (hp : ∀ {w : World} {I : Nat → Prop} {tb : Tb Y.P I s w}, PureE ⟨Y.P, Y.nt, w, fps s.heap, I, [], tb⟩ H1 o s s') (hH : H1.map HL.fp = s.heap.map HL.fp := by rfl) : EffO Y o s [] (fun s2 => s2 = s') :=
  EffO.of fun {w I tb} => EffE.pure (@hp w I tb) fun b ⟨z, hz, hzb⟩ => by
    have h1 : HL.fp z ∈ s.heap.map HL.fp := hH ▸ List.mem_map_of_mem (f := HL.fp) hz
    obtain ⟨z', h2, h3⟩ := List.mem_map.1 h1
    exact ⟨z', h2, h3 ▸ hzb⟩
def GoV (Y : Cy) (fn : Func) (R : Value → World → (Nat → Prop) → Prop) (all : Array Oper) (p : Plan) (k : List It) (s : St) : Prop := ∀ H0, GoP Y fn R all H0 p k s
theorem GoV.done (h : GoK Y fn R k s) : GoV Y fn R all .done k s := fun _ => GoP.done h
section
variable {d : Tmp} {op : Op} {ty : TypeId} {pos : String} {aft : Array Edge}
theorem GoV.qN (hi : all[i]? = some ⟨some d, op, ty, pos, aft, none⟩) (hp : ∀ {H0 : List HL} {w : World} {I : Nat → Prop} {tb : Tb Y.P I s w}, PureE ⟨Y.P, Y.nt, w, fps s.heap, I, [], tb⟩ H0 ⟨some d, op, ty, pos, aft, none⟩ s s') (h : GoV Y fn R all p k s') : GoV Y fn R all (.q i p) k s :=
  fun H0 => GoP.qN hi (fun {w I tb} => @hp H0 w I tb) (h H0)
theorem pv_extract {X : Cx} {x : Operand} {n i : Nat} {get : Nat → D} (hx : s.ev x = some (.tp n get)) (hi : Nat.blt i n = true) (hd : Nat.blt d X.nt = true) : PureE X H0 ⟨some d, .extract x i, ty, pos, aft, none⟩ s (s.put d (get i)) := ps_extract hx hi hd
theorem pv_assign {X : Cx} {x : Operand} {q : D} (hx : s.ev x = some q) (hd : Nat.blt d X.nt = true) : PureE X H0 ⟨some d, .assign x, ty, pos, aft, none⟩ s (s.put d q) := ps_assign hx hd
theorem GoP.oneCF {f : FuncId} [hf : FnT Y.P f] {xs : List Operand} {ats : Array TypeId} {ds ds' : List D} {Hin rest L rest' r0 : List HL} {post : D → List HL → Prop}
    (hi : all[i]? = some ⟨some d, .call { callee := .value (.func f), args := xs.toArray, argTypes := ats }, ty, pos, aft, none⟩)
    (hx : evL s xs = some ds) (ht : Take s.heap Hin rest) (hL : Take rest L rest') (spec : Does Y.P f ds' Hin post) (hl : LendL L ds ds') (hd : Nat.blt d Y.nt = true) (hm : ∀ b, fps L b → ¬ Y.may b) (ht0 : Take s.heap (Hin ++ H0) r0)
    (h : ∀ r H', post r H' → GoV Y fn R all p k ⟨(d, r) :: s.env, H' ++ rest'⟩) : GoP Y fn R all H0 (.one i p) k s :=
  GoP.oneCG hi trivial (ef_callK hx ht hL spec hl hd hm) ht0 fun r H' hp => h r H' hp H0
end
theorem GoQ.lastG {o : Oper} {wr r : List HL} {next : St → Prop} (hi : all[j0]? = some o) (hg : Lets Y all s o.guard) (he : EffG Y o s wr next) (ht : Take s.heap wr r) (h : ∀ s', next s' → GoP Y fn R all [] p k s') :
    GoQ Y fn R all H0 j0 (.one j0 p) k s :=
  ⟨fun I a w O wR fuel listed hs hS hns hp hl _ => by
    cases fuel with
    | zero => simp [planOk] at hp
    | succ f =>
      simp only [planOk, Bool.and_eq_true, decide_eq_true_eq] at hp
      refine ⟨fun h0 => absurd (hp.1 ▸ h0) (by simp), fun i' hi' => ?_⟩
      have : i' = j0 := by rw [hp.1] at hi'; simpa using hi'
      subst this
      have h1 := step_oneG (H0 := []) hi hg he (by simpa using ht) (fun _ h => h) h hs hS.nil hns hp.2
      refine opiO_mono (fun a' w' O' h' => ?_) h1
      have hset : ∀ (L : Array Bool), (L.setIfInBounds i' true).getD i' true = true := fun L => by
        by_cases c : i' < L.size
        · simp [c]
        · simp [c]
      have hl' := hset listed
      refine ⟨⟨fun z => (by rw [hl'] at z; cases z), h'.1⟩, anyO_weak (G := fun L => L.getD i' true = true) (fun L j hL => ?_) (fun L w O hL hU => ⟨fun z => (by rw [hL] at z; cases z), hU⟩) f _ a' w' O' hl' h'.2⟩
      by_cases e : j = i'
      · subst e; exact hset L
      · rw [Go.getD_set_ne true e]; exact hL⟩
theorem GoQ.lastCG {o : Oper} {wr r : List HL} {post : D → List HL → Prop} {F : D → List HL → St} (hi : all[j0]? = some o) (hg : Lets Y all s o.guard) (he : EffG Y o s wr (fun s2 => ∃ r H', post r H' ∧ s2 = F r H')) (ht : Take s.heap wr r)
    (h : ∀ r H', post r H' → GoP Y fn R all [] p k (F r H')) : GoQ Y fn R all H0 j0 (.one j0 p) k s := GoQ.lastG hi hg he ht fun _ ⟨r, H', hp, e⟩ => e ▸ h r H' hp
theorem GoO.bytes {os : List Oper} {d : Tmp} {x : Operand} {ty : TypeId} {pos : String} {aft : Array Edge} {src dst e : TypeId} {z : ByteArray} [h1 : StT Y.P src] [h2 : SlT Y.P dst e] [h3 : IntT Y.P e .u8] (hx : s.ev x = some (.v (.string z))) (hz : z.size ≤ 1000) (hd : Nat.blt d Y.nt = true)
    (h : GoO Y fn R all os k (s.put d (slD (bytesL z)))) : GoO Y fn R all (⟨some d, .convert src dst x, ty, pos, aft, none⟩ :: os) k s :=
  ⟨fun I a w O hs0 => listO_cons rfl fun w₁ h₁ => by
    have hY := hs0.rely h₁
    have hs := hY.core
    have hv : a.eval x = .string z := hs.ev hx
    have hr := Go.Lib.run_convert_string_bytes (P := Y.P) w₁ src dst e z h1.h h2.h h3.h
    have hev := ev_convert_string_bytes (P := Y.P) w₁ src dst e z h1.h h2.h h3.h #[]
    have hrun : (execOp a.eval ⟨some d, .convert src dst x, ty, pos, aft, none⟩).run Y.P w₁ = .ok (.value (.slice (some ⟨w₁.heap.size, 0, none⟩) z.size (grownCap w₁ z.size 0 e))) (Go.Lib.bytesWorld w₁ e z) := by
      simp only [execOp, hv, Sem.run_bind, hr, Result.andThen_ok, Sem.run_pure]
    have hevs : (execOp a.eval ⟨some d, .convert src dst x, ty, pos, aft, none⟩).events Y.P w₁ #[] = #[] := by
      simp only [execOp, hv, Sem.events_bind, hr, hev, Result.evThen_ok, Sem.events_pure]
    rw [hrun, hevs]
    have hsame : Same w₁ (Go.Lib.bytesWorld w₁ e z) (fun _ => False) := ⟨rfl, rfl, rfl, by rw [Go.Lib.bytesWorld_size]; omega, fun j hj _ => Go.Lib.bytesWorld_at_old w₁ e z j hj⟩
    refine ⟨hY.guar (hsame.mono fun _ hh => hh.elim) (fun e he => absurd he (Array.not_mem_empty _)), h.run (fun b => I b ∨ b = w₁.heap.size) _ _ _ (hY.step (Sat.put ?_ (blt_lt hd) ?_))⟩
    · have h' := hs.world (w' := Go.Lib.bytesWorld w₁ e z) (hsame.mono (fun _ hh => hh.elim))
      refine ⟨h'.tsz, h'.dfr, fun j q hj => (h'.env j q hj).mono (fun _ h => .inl h) (fun _ _ => rfl), fun q hq => (h'.heap q hq).mono (fun _ h => .inl h) (fun _ _ => rfl) (fun _ _ => rfl), h'.sep, fun b hb => ?_, fun b hb => ?_, fun b hb => .inl (h'.i0 b hb), h'.same⟩
      · obtain ⟨o1, o2, o3⟩ := h'.own b hb
        refine ⟨fun hh => ?_, o2, o3⟩
        rcases hh with hh | hh
        · exact o1 hh
        · have := (hs.own b hb).2.2; omega
      · rcases hb with hb | hb
        · exact h'.imm b hb
        · subst hb
          exact ⟨by rw [Go.Lib.bytesWorld_size]; omega, .inr hs.same.size⟩
    · refine ⟨some ⟨w₁.heap.size, 0, none⟩, grownCap w₁ z.size 0 e, by rw [bytesL_len], by rw [bytesL_len]; exact grownCap_ge w₁ _ _ _, grownCap_le_maxLen w₁ _ _ _ (by unfold maxLen; omega), fun _ => ⟨w₁.heap.size, 0, rfl, .inr rfl, fun i hi f hf => ?_⟩⟩
      have hf0 : f = 0 := by have : f < 1 := hf; omega
      subst hf0
      rw [bytesL_len] at hi
      refine ⟨.int .u8 (z.data.toList.getD i 0).toNat, ?_, rfl, ?_⟩
      · have := Go.Lib.bytesWorld_cell w₁ e z i hi
        rw [show 0 + (i * El.size U8 + 0) = i by rw [show El.size U8 = 1 from rfl]; omega]
        exact this
      · show _ = _
        have hi' : i < z.data.toList.length := by simpa using hi
        have hb : (bytesL z).getD i El.d = ⟨((z.data.toList.getD i 0).toNat : Int)⟩ := by
          unfold bytesL
          rw [List.getD_eq_getElem?_getD, List.getD_eq_getElem?_getD, List.getElem?_map, List.getElem?_eq_getElem hi']
          rfl
        rw [hb]⟩
end
theorem Does.freeze {P : Program} {f : FuncId} {args : List D} {post post' : D → List HL → Prop} (h : Does P f args [] post) (hf : ∀ d H, post d H → ∃ d', post' d' [] ∧ Lend H d d') : Does P f args [] post' := fun main Im I w vs O h1 h2 hO hI hlt h4 =>
  (h main Im I w vs O h1 h2 hO hI hlt h4).mono (by
    rintro v w' O' ⟨d, H', N, hp, hr, hok, hN, hfp, h5, h6, h7, h8, h9, h10, h11, h12⟩
    obtain ⟨d', hp', hl⟩ := hf d H' hp
    have hfr : ∀ b, fps H' b → b < w'.heap.size ∧ O' b ∧ ¬ O b := fun b hb => ⟨(hok.own b hb).2, (hfp b hb).1, (hfp b hb).2.resolve_left (fun hb => by obtain ⟨z, hz, _⟩ := hb; cases hz)⟩
    refine ⟨d', [], fun b => N b ∨ fps H' b, hp', ?_, ⟨fun z hz => (by cases hz), List.Pairwise.nil, fun b hb => (by obtain ⟨z, hz, _⟩ := hb; cases hz)⟩, fun b hb => hb.elim (hN b) (hfr b), fun b hb => (by obtain ⟨z, hz, _⟩ := hb; cases hz), h5, h6, h7, h8, h9, h10, h11, h12⟩
    refine (hl _ w' v hok.ok hr).mono (fun b hb => ?_) (fun _ _ => rfl)
    rcases hb with (hb | hb) | hb
    · exact .inl hb
    · exact .inr (.inl hb)
    · exact .inr (.inr hb))
end Y
end Go.Proofs.Ytkfmphlnpmemdaa.Sx
namespace Go.Proofs.Ytkfmphlnpmemdaa.Sx
open Go Go.Conc Go.Proofs.Ytkfmphlnpmemdaa
class ArcTE (P : Program) (t : TypeId) : Prop where
  ev : ∀ (a b c a' b' c' : Int) (w : World) (es : Array Event), (Op.equalIn 10000 t (.agg #[.int .i64 a, .int .i64 b, .int .i64 c]) (.agg #[.int .i64 a', .int .i64 b', .int .i64 c'])).events P w es = es
theorem ev_equalIn_int {P : Program} (w : World) (d : Nat) (t : TypeId) (k k' : IntKind) (a b : Int) (h : P.underlying t = some (.int k')) (es : Array Event) : (Op.equalIn (d + 1) t (.int k a) (.int k b)).events P w es = es := by
  simp [Op.equalIn, run_underlying h]
theorem ev_arcEqD (D : Nat) (i1 : ∀ (w : World) (a b : Int), (Op.equalIn D 3 (.int .i64 a) (.int .i64 b)).run Try.prog w = .ok (a == b) w) (i2 : ∀ (w : World) (a b : Int) (es : Array Event), (Op.equalIn D 3 (.int .i64 a) (.int .i64 b)).events Try.prog w es = es)
    (a b c a' b' c' : Int) (w : World) (es : Array Event) : (Op.equalIn (D + 1) 57 (.agg #[.int .i64 a, .int .i64 b, .int .i64 c]) (.agg #[.int .i64 a', .int .i64 b', .int .i64 c'])).events Try.prog w es = es := by
  have u3 := Try.underlying3
  have a3 := Try.isAgg3
  have z3 := Try.sizeOf3
  have hS : Try.prog.underlying 57 = some (.struct (Try.prog.fieldsOf 57)) := by kernel_rfl
  have hp : Try.prog.stoodInHeld 57 = false := by kernel_rfl
  simp only [Op.equalIn, Sem.events_bind, Sem.run_bind, run_underlying hS, events_underlying, Result.evThen_ok, Result.andThen_ok, run_program, events_program, hp, Bool.false_eq_true, if_false]
  rw [← Array.forIn_toList]
  simp only [Program.fieldsOf, Try.underlying57]
  have p1 := fun (xs : Array Value) (o : Nat) (w : World) (v : Value) (h : xs[o]? = some v) => show (part 3 xs o).run Try.prog w = .ok v w by
    simp [part, isAgg, run_underlying u3, h]
  have p2 := fun (xs : Array Value) (o : Nat) (w : World) (v : Value) (es : Array Event) (h : xs[o]? = some v) => show (part 3 xs o).events Try.prog w es = es by
    simp [part, isAgg, run_underlying u3, h]
  simp [List.forIn_cons, p1, p2, i1, i2]
theorem ev_arcEq (a b c a' b' c' : Int) (w : World) (es : Array Event) : (Op.equalIn 10000 57 (.agg #[.int .i64 a, .int .i64 b, .int .i64 c]) (.agg #[.int .i64 a', .int .i64 b', .int .i64 c'])).events Try.prog w es = es :=
  ev_arcEqD 9999 (fun w a b => run_equalIn_int (P := Try.prog) w 9998 3 .i64 .i64 a b (by kernel_rfl)) (fun w a b es => ev_equalIn_int (P := Try.prog) w 9998 3 .i64 .i64 a b (by kernel_rfl) es) a b c a' b' c' w es
instance : ArcTE Try.prog 57 := ⟨ev_arcEq⟩
namespace Y
section
variable {X : Cx} {s s' : St} {H0 : List HL} {d : Tmp} {ty : TypeId} {pos : String} {aft : Array Edge} {x y : Operand} {xt yt : TypeId} {q : D}
theorem ps_neqS {g g' : Nat → D} {a b c a' b' c' : Int} [ht : ArcT X.P xt] [hE : ArcTE X.P xt] (hx : s.ev x = some (.ag 3 g)) (hy : s.ev y = some (.ag 3 g')) (h0 : g 0 = .v (.int .i64 a)) (h1 : g 1 = .v (.int .i64 b)) (h2 : g 2 = .v (.int .i64 c))
    (h0' : g' 0 = .v (.int .i64 a')) (h1' : g' 1 = .v (.int .i64 b')) (h2' : g' 2 = .v (.int .i64 c')) (hd : Nat.blt d X.nt = true) :
    PureE X H0 ⟨some d, .binOp .neq xt x y yt, ty, pos, aft, none⟩ s (s.put d (.v (.bool (decide (¬ (a = a' ∧ b = b' ∧ c = c')))))) :=
  .quiet (Sx.ps_neqS hx hy h0 h1 h2 h0' h1' h2' hd) fun I act w hs w' => by
    have e1 := arc_value (hs.ev hx) h0 h1 h2
    have e2 := arc_value (hs.ev hy) h0' h1' h2'
    have e3 : (binOp .neq xt (.agg #[.int .i64 a, .int .i64 b, .int .i64 c]) (.agg #[.int .i64 a', .int .i64 b', .int .i64 c'])).events X.P w' #[] = #[] := by
      show (do Pure.pure (Value.bool (!(← Op.equal xt (.agg #[.int .i64 a, .int .i64 b, .int .i64 c]) (.agg #[.int .i64 a', .int .i64 b', .int .i64 c'])))) : Sem Value).events X.P w' #[] = #[]
      rw [Sem.events_bind, show (Op.equal xt (.agg #[.int .i64 a, .int .i64 b, .int .i64 c]) (.agg #[.int .i64 a', .int .i64 b', .int .i64 c'])).events X.P w' #[] = #[] from hE.ev a b c a' b' c' w' #[]]
      cases (Op.equal xt (.agg #[.int .i64 a, .int .i64 b, .int .i64 c]) (.agg #[.int .i64 a', .int .i64 b', .int .i64 c'])).run X.P w' <;> rfl
    have e4 : (eqGuard .neq xt x y (.agg #[.int .i64 a, .int .i64 b, .int .i64 c]) (.agg #[.int .i64 a', .int .i64 b', .int .i64 c'])).events X.P w' #[] = #[] := by
      simp [eqGuard, ht.guard]
    simp [execOp, e1, e2, run_eqGuard_agg _ _ _ _ _ _ _ ht.guard, e3, e4]
end
end Y
namespace Y
theorem Qa : type_of% @GoO.pure := @GoO.pure
theorem Qb : type_of% @DLe.refl := @DLe.refl
theorem Qc : type_of% @GoC.region := @GoC.region
theorem Qd : type_of% @GoK.code := @GoK.code
theorem Qe : type_of% @EnvD.eq := @EnvD.eq
theorem Qf : type_of% @Nat.zero_lt_one := @Nat.zero_lt_one
theorem Qg : type_of% @Option.some.inj := @Option.some.inj
theorem Qh : type_of% @ps_assign := @ps_assign
theorem Qi : type_of% @GoC.seq := @GoC.seq
theorem Qj : type_of% @ps_move := @ps_move
theorem Qk : type_of% @Take.cons := @Take.cons
theorem Ql : type_of% @Take.nil := @Take.nil
theorem Qm : type_of% @GoO.nil := @GoO.nil
theorem Qn : type_of% @TkD.cons := @TkD.cons
theorem Qo : type_of% @Lend.refl := @Lend.refl
theorem Qp : type_of% @Rem.p0 := @Rem.p0
theorem Qq : type_of% @trivial := @trivial
theorem Qr : type_of% @ps_fieldAddr := @ps_fieldAddr
theorem Qs : type_of% @ResL.cons := @ResL.cons
theorem Qt : type_of% @LendL.cons := @LendL.cons
theorem Qu : type_of% @HLe.refl := @HLe.refl
theorem Qv : type_of% @GoO.guardF := @GoO.guardF
theorem Qw : type_of% @ResD.tmp := @ResD.tmp
theorem Qx : type_of% @GoP.qN := @GoP.qN
theorem Qy : type_of% @At.p0 := @At.p0
theorem Qz : type_of% @ResL.nil := @ResL.nil
theorem Ja : type_of% @GoC.retL := @GoC.retL
theorem Jb : type_of% @ps_extract := @ps_extract
theorem Jc : type_of% @EnvD.nil := @EnvD.nil
theorem Jd : type_of% @ps_load := @ps_load
theorem Je : type_of% @GoO.guardT := @GoO.guardT
theorem Jf : type_of% @GoC.condD := @GoC.condD
theorem Jg : type_of% @TkD.nil := @TkD.nil
theorem Jh : type_of% @HLe.st := @HLe.st
theorem Ji : type_of% @GoC.skip := @GoC.skip
theorem Jj : type_of% @LendL.nil := @LendL.nil
theorem Jk : type_of% @Rem.p1 := @Rem.p1
theorem Jl : type_of% @Parts.cons := @Parts.cons
theorem Jm : type_of% @GoO.effB := @GoO.effB
theorem Jn : type_of% @ps_indexAddrRN := @ps_indexAddrRN
theorem Jo : type_of% @EnvD.cons := @EnvD.cons
theorem Jp : type_of% @GoP.qF := @GoP.qF
theorem Jq : type_of% @DLe.len := @DLe.len
theorem Jr : type_of% @ps_loadAg := @ps_loadAg
theorem Js : type_of% @At.p1 := @At.p1
theorem Z {α : Sort _} {a : α} : a = a := rfl
end Y
end Go.Proofs.Ytkfmphlnpmemdaa.Sx
namespace Go.Proofs.Ytkfmphlnpmemdaa.Sx
open Go Go.Conc
namespace Y
section
variable {Y : Cy} {fn : Func} {R : Value → World → (Nat → Prop) → Prop} {k : List It} {s s' : St} {all : Array Oper} {H0 : List HL} {p : Plan} {i j g t : Nat} {op : Op} {ty : TypeId} {pos : String} {aft : Array Edge} {want : Bool}
theorem GoP.oneX {x : Value} (hi : all[i]? = some ⟨some t, op, ty, pos, aft, some (j, want)⟩) (hj : gslot all j = some g) (hg : Nat.blt g Y.nt = true) (hb : look s.env g = some (.v x)) (hx : boolOf x ≠ some want) (ht : Nat.blt t Y.nt = true)
    (h : GoP Y fn R all H0 p k (s.put t (.v undef))) : GoP Y fn R all H0 (.one i p) k s :=
  ⟨fun I a w O wR fuel listed hs hS hns hp => by
    cases fuel with
    | zero => simp [planOk] at hp
    | succ f =>
      simp only [planOk, Bool.and_eq_true, decide_eq_true_eq] at hp
      refine ⟨fun h0 => absurd (hp.1 ▸ h0) (by simp), fun i' hi' => ?_⟩
      have : i' = i := by rw [hp.1] at hi'; simpa using hi'
      subst this
      have hy := hs.core.yielded hj hg hb
      have hne : (boolOf x == some want) = false := by
        rw [Bool.eq_false_iff]; exact fun e => hx (eq_of_beq e)
      unfold opiO
      simp only [hi, Region.wanted, hy, hne, Bool.false_eq_true, if_false]
      exact ⟨hS, h.run I _ w O wR f _ (hs.here (hs.core.put (blt_lt ht) rfl)) hS hns hp.2⟩⟩
theorem GoP.oneF (hi : all[i]? = some ⟨some t, op, ty, pos, aft, some (j, want)⟩) (hj : gslot all j = some g) (hg : Nat.blt g Y.nt = true) (hb : look s.env g = some (.v (.bool (!want)))) (ht : Nat.blt t Y.nt = true)
    (h : GoP Y fn R all H0 p k (s.put t (.v undef))) : GoP Y fn R all H0 (.one i p) k s := GoP.oneX hi hj hg hb (by cases want <;> simp [boolOf]) ht h
end
theorem ps_sliceR {X : Cx} {s : St} {H0 : List HL} {d : Tmp} {ty : TypeId} {pos : String} {aft : Array Edge} {x : Operand} {size len l h : Nat} {get : Nat → Nat → D} {t e : TypeId} {ag : Bool} {lo hi : Option Operand} [ht : SlT X.P t e] [he : TI X.P e size ag] (hx : s.ev x = some (.sl size len get)) (hlo : Bd s lo l 0) (hhi : Bd s hi h len)
    (h1 : l ≤ h) (h2 : h ≤ len) (hd : Nat.blt d X.nt = true) : PureE X H0 ⟨some d, .slice t x lo hi none, ty, pos, aft, none⟩ s (s.put d (.sl size (h - l) fun e f => get (e + l) f)) :=
  .quiet (Sx.ps_sliceR hx hlo hhi h1 h2 hd) fun I a w hs w' => by
    obtain ⟨ad, cap, hv, g1, g2, g3⟩ := hs.ev hx
    have b1 : (lo.map a.eval = none ∧ l = 0) ∨ ∃ kd, lo.map a.eval = some (.int kd (l : Int)) := (hlo.val hs).imp (fun ⟨e1, e2⟩ => ⟨by rw [e1]; rfl, e2⟩) id
    have b2 : (hi.map a.eval = none ∧ h = len) ∨ ∃ kd, hi.map a.eval = some (.int kd (h : Int)) := (hhi.val hs).imp (fun ⟨e1, e2⟩ => ⟨by rw [e1]; rfl, e2⟩) id
    simp [execOp, hv, run_slicing ht.h he b1 b2 h1 (show h ≤ cap by omega), ev_slicing ht.h he b1 b2 h1 (show h ≤ cap by omega)]
end Y
end Go.Proofs.Ytkfmphlnpmemdaa.Sx
