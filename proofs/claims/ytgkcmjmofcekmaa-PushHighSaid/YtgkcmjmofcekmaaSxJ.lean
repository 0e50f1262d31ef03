/- The walk's rules for maps of ints to ints. Plain laws over any program. -/
import Derived.Test.YtgkcmjmofcekmaaSxI
namespace Go.Proofs.Ytgkcmjmofcekmaa.Sx
open Go
set_option linter.unusedVariables false
set_option linter.unusedSimpArgs false
def mget : List (Int × Int) → Int → Option Int
  | [], _ => none
  | (a, b) :: r, k => if k = a then some b else mget r k
def mset : List (Int × Int) → Int → Int → List (Int × Int)
  | [], k, v => [(k, v)]
  | (a, b) :: r, k, v => if k = a then (a, v) :: r else (a, b) :: mset r k v
class MapT (P : Program) (t : TypeId) (k : outParam TypeId) (e : outParam TypeId) : Prop where
  h : P.underlying t = some (.map k e)
theorem findNow_mp (k : Int) : ∀ (vs : List MapEntry) (es : List (Int × Int)) (i : Nat), vs.map (fun e => (e.key, e.val)) = es.map (fun p => (Value.int .i64 p.1, Value.int .i64 p.2)) →
    (mget es k = none ∧ Instr.findNow (.int .i64) (.int .i64 k) vs i = some none ∧ ∀ v, mset es k v = es ++ [(k, v)]) ∨
    ∃ j b, mget es k = some b ∧ Instr.findNow (.int .i64) (.int .i64 k) vs i = some (some (i + j, .int .i64 b)) ∧ (∃ bo, vs[j]? = some ⟨.int .i64 k, .int .i64 b, bo⟩) ∧ ∀ v, mset es k v = es.set j (k, v)
  | [], [], i, _ => .inl ⟨rfl, rfl, fun _ => rfl⟩
  | [], _ :: _, _, h => by simp at h
  | _ :: _, [], _, h => by simp at h
  | e :: vs, (a, b) :: es, i, h => by
    simp only [List.map_cons, List.cons.injEq, Prod.mk.injEq] at h
    obtain ⟨⟨h1, h2⟩, h3⟩ := h
    by_cases c : k = a
    · subst c
      refine .inr ⟨0, b, by simp [mget], ?_, ⟨e.born, ?_⟩, fun v => by simp [mset]⟩
      · simp [Instr.findNow, h1, Instr.sameNow, h2]
      · cases e; simp at h1 h2; simp [h1, h2]
    · have hne : (k == a) = false := by simpa using c
      have hf : Instr.findNow (.int .i64) (.int .i64 k) (e :: vs) i = Instr.findNow (.int .i64) (.int .i64 k) vs (i + 1) := by
        simp [Instr.findNow, h1, Instr.sameNow, hne]
      rcases findNow_mp k vs es (i + 1) h3 with ⟨g1, g2, g3⟩ | ⟨j, b', g1, g2, ⟨bo, g3⟩, g4⟩
      · exact .inl ⟨by simp [mget, c, g1], by rw [hf, g2], fun v => by simp [mset, c, g3]⟩
      · refine .inr ⟨j + 1, b', by simp [mget, c, g1], by rw [hf, g2]; congr 3; omega, ⟨bo, by simpa using g3⟩, fun v => by simp [mset, c, g4]⟩
theorem run_getMap {P : Program} {w : World} {r : Nat} {es : Array MapEntry} {clock : Nat} (hb : w.heap[r]? = some (.map es clock)) : (getObj r).run P w = .ok (.map es clock) w := by simp [getObj, Sem.run, hb]
theorem run_setMap {P : Program} {w : World} {r : Nat} {es : Array MapEntry} {clock : Nat} (o : Obj) (hb : w.heap[r]? = some (.map es clock)) : (setObj r o).run P w = .ok () { w with heap := w.heap.setIfInBounds r o } := by simp [setObj, Sem.run, hb]
theorem run_checkIntN {P : Program} {w : World} {t : TypeId} {k : Int} (e : Bool) (n : Nat) (ht : P.underlying t = some (.int .i64)) : (Instr.checkKey e (n + 1) t (.int .i64 k)).run P w = .ok () w := by
  simp [Instr.checkKey, run_underlying ht]
theorem run_checkInt {P : Program} {w : World} {t : TypeId} {k : Int} (e : Bool) (ht : P.underlying t = some (.int .i64)) : (Instr.checkKey e 10000 t (.int .i64 k)).run P w = .ok () w := run_checkIntN e 9999 ht
theorem run_findInt {P : Program} {w : World} {t : TypeId} {k : Int} {vs : List MapEntry} {r : Option (Nat × Value)} (ht : P.underlying t = some (.int .i64)) (hf : Instr.findNow (.int .i64) (.int .i64 k) vs 0 = some r) : (Instr.findKey t (.int .i64 k) vs).run P w = .ok r w := by
  simp [Instr.findKey, run_underlying ht, hf]
def World.putMap (w : World) (r : Nat) (o : Obj) : World := { w with heap := w.heap.setIfInBounds r o }
theorem Same.putMap (w : World) (r : Nat) (o : Obj) : Same w (World.putMap w r o) (· = r) :=
  ⟨rfl, rfl, rfl, by simp [World.putMap], fun k _ hm => by
    simp only [World.putMap, Array.getElem?_setIfInBounds]
    rw [if_neg (fun e => hm e.symm)]⟩
section
variable {X : Cx} {s : St} {d : Tmp} {ty : TypeId} {pos : String} {aft : Array Edge} {gd : Option (Nat × Bool)} {x y z : Operand}
theorem ef_makeMap {t : TypeId} (hd : Nat.blt d X.nt = true) :
    Eff X ⟨some d, .makeMap t none, ty, pos, aft, gd⟩ s [] (fun s2 => ∃ β : BK, s2 = ⟨(d, .v (.map (some β.b))) :: s.env, .mp β [] :: s.heap⟩) := fun I a w hs Q => by
  refine wp_val (v := .map (some w.heap.size)) (w' := w.alloc (.map #[] 0)) ?_ ⟨Same.alloc w _ _, _, ⟨⟨w.heap.size, 0, 0⟩, rfl⟩, ?_⟩
  · simp [execOp, Instr.makeMap]
  · have := hs.new (Same.alloc w (.map #[] 0) _) (.mp ⟨w.heap.size, 0, 0⟩ []) ⟨#[], 0, by show (w.heap.push _)[w.heap.size]? = _; exact Array.getElem?_push_size, rfl⟩ (fun b hb => by
      have hb' : b = w.heap.size := hb
      subst hb'
      exact ⟨Nat.le_refl _, by show w.heap.size < (w.heap.push _).size; rw [Array.size_push]; exact Nat.lt_succ_self _⟩)
    exact this.put (blt_lt hd) rfl
theorem ef_lookup {t kt et : TypeId} {size bytes : Nat} [ht : MapT X.P t kt et] [hk : IntT X.P kt .i64] [hz : ZI X.P et size bytes (.int .i64 0)] {β : BK} {es : List (Int × Int)} {k : Int} {H : List HL}
    (hx : s.ev x = some (.v (.map (some β.b)))) (hy : s.ev y = some (.v (.int .i64 k))) (hm : At s.heap (.mp β es) (.mp β es) H) (hd : Nat.blt d X.nt = true) :
    Eff X ⟨some d, .lookup t x y true, ty, pos, aft, gd⟩ s [] (fun s2 => s2 = s.put d (.tp 2 (nth [.v (.int .i64 ((mget es k).getD 0)), .v (.bool (mget es k).isSome)]))) := fun I a w hs Q => by
  obtain ⟨i, z1, z2, z3, z4, z5, z6⟩ := hz.h
  have e1 : a.eval x = .map (some β.b) := hs.ev hx
  have e2 : a.eval y = .int .i64 k := hs.ev hy
  obtain ⟨vs, clock, h1, h2⟩ : (HL.mp β es).ok I w := hs.heap _ hm.mem
  have hrun : (Instr.lookup t (.map (some β.b)) (.int .i64 k) true).run X.P w = .ok (.tuple #[.int .i64 ((mget es k).getD 0), .bool (mget es k).isSome]) w := by
    rcases findNow_mp k vs.toList es 0 h2 with ⟨g1, g2, _⟩ | ⟨j, b, g1, g2, _, _⟩
    · simp [Instr.lookup, run_underlying ht.h, run_getMap h1, run_checkInt _ hk.h, run_findInt hk.h g2, zeroValue, typeInfo, z1, z2, g1]
    · simp [Instr.lookup, run_underlying ht.h, run_getMap h1, run_checkInt _ hk.h, run_findInt hk.h g2, g1]
  refine wp_val (v := .tuple #[.int .i64 ((mget es k).getD 0), .bool (mget es k).isSome]) (w' := w) ?_ ⟨Same.refl _ _, _, rfl, hs.put (blt_lt hd) ⟨_, rfl, rfl, fun i hi => ?_⟩⟩
  · simp only [execOp, e1, e2, Sem.run_bind, hrun, Result.andThen_ok, Sem.run_pure]
  · match i, hi with
    | 0, _ => exact ⟨_, rfl, rfl⟩
    | 1, _ => exact ⟨_, rfl, rfl⟩
theorem mapSet_core {t kt et : TypeId} [ht : MapT X.P t kt et] [hk : IntT X.P kt .i64] {β : BK} {es : List (Int × Int)} {k v : Int} {H : List HL} {op : Op} (hop : op = .mapUpdate t x y z ∨ op = .insert t x y z)
    (hx : s.ev x = some (.v (.map (some β.b)))) (hy : s.ev y = some (.v (.int .i64 k))) (hv : s.ev z = some (.v (.int .i64 v))) (hm : At s.heap (.mp β es) (.mp β (mset es k v)) H) :
    Eff X ⟨none, op, ty, pos, aft, gd⟩ s [.mp β es] (fun s2 => s2 = ⟨s.env, H⟩) := fun I a w hs Q => by
  have e1 : a.eval x = .map (some β.b) := hs.ev hx
  have e2 : a.eval y = .int .i64 k := hs.ev hy
  have e3 : a.eval z = .int .i64 v := hs.ev hv
  obtain ⟨vs, clock, h1, h2⟩ : (HL.mp β es).ok I w := hs.heap _ hm.mem
  have hlt : β.b < w.heap.size := (hs.own β.b ⟨_, hm.mem, rfl⟩).2.2
  have hrun : ∃ o, (Instr.mapUpdate t (.map (some β.b)) (.int .i64 k) (.int .i64 v)).run X.P w = .ok () (World.putMap w β.b o) ∧ (∃ vs' clock', o = .map vs' clock' ∧ vs'.toList.map (fun e => (e.key, e.val)) = (mset es k v).map fun p => (Value.int .i64 p.1, Value.int .i64 p.2)) := by
    rcases findNow_mp k vs.toList es 0 h2 with ⟨g1, g2, g3⟩ | ⟨j, b, g1, g2, ⟨bo, g3⟩, g4⟩
    · refine ⟨.map (vs.push ⟨.int .i64 k, .int .i64 v, clock⟩) (clock + 1), ?_, _, _, rfl, ?_⟩
      · simp [Instr.mapUpdate, run_underlying ht.h, run_getMap h1, run_checkInt _ hk.h, run_findInt hk.h g2, run_setMap _ h1, World.putMap]
      · rw [g3]; simp [h2]
    · have hj : vs[j]? = some ⟨.int .i64 k, .int .i64 b, bo⟩ := by simpa using g3
      refine ⟨.map (vs.modify j fun e => { e with key := .int .i64 k, val := .int .i64 v }) clock, ?_, _, _, rfl, ?_⟩
      · simp [Instr.mapUpdate, run_underlying ht.h, run_getMap h1, run_checkInt _ hk.h, run_findInt hk.h g2, run_setMap _ h1, World.putMap, hj, Instr.keyThatStays, Instr.sameBits]
      · rw [g4]
        refine List.ext_getElem? fun i => ?_
        have h2i := congrArg (fun l => l[i]?) h2
        simp only [List.getElem?_map, List.getElem?_set, Array.toList_modify, List.getElem?_modify] at h2i ⊢
        by_cases e : j = i
        · subst e
          have hj' : vs.toList[j]? = some ⟨.int .i64 k, .int .i64 b, bo⟩ := g3
          rw [hj'] at h2i ⊢
          have : j < es.length := by
            rcases Nat.lt_or_ge j es.length with c | c
            · exact c
            · rw [List.getElem?_eq_none (l := es) c] at h2i; simp at h2i
          simp [this]
        · simp [e]; simpa using h2i
  obtain ⟨o, hr, vs', clock', rfl, ho⟩ := hrun
  have hsame := Same.putMap w β.b (.map vs' clock')
  refine wp_skip0 (w' := World.putMap w β.b (.map vs' clock')) ?_ ⟨hsame.mono fun i hi => ⟨_, List.mem_singleton.2 rfl, hi⟩, _, rfl, ?_⟩
  · rcases hop with rfl | rfl <;> simp only [execOp, e1, e2, e3, Sem.run_bind, hr, Result.andThen_ok, Sem.run_pure]
  · exact hs.turn hm (hsame.mono fun i hi => hi) ⟨vs', clock', by simp [World.putMap, hlt], ho⟩ fun b hb => ⟨.inl hb, by
      have hb' : b = β.b := hb
      subst hb'
      simpa [World.putMap] using hlt⟩
theorem ef_mapSet {t kt et : TypeId} [ht : MapT X.P t kt et] [hk : IntT X.P kt .i64] {β : BK} {es : List (Int × Int)} {k v : Int} {H : List HL}
    (hx : s.ev x = some (.v (.map (some β.b)))) (hy : s.ev y = some (.v (.int .i64 k))) (hv : s.ev z = some (.v (.int .i64 v))) (hm : At s.heap (.mp β es) (.mp β (mset es k v)) H) :
    Eff X ⟨none, .mapUpdate t x y z, ty, pos, aft, gd⟩ s [.mp β es] (fun s2 => s2 = ⟨s.env, H⟩) := mapSet_core (.inl rfl) hx hy hv hm
theorem ef_mapIns {t kt et : TypeId} [ht : MapT X.P t kt et] [hk : IntT X.P kt .i64] {β : BK} {es : List (Int × Int)} {k v : Int} {H : List HL}
    (hx : s.ev x = some (.v (.map (some β.b)))) (hy : s.ev y = some (.v (.int .i64 k))) (hv : s.ev z = some (.v (.int .i64 v))) (hm : At s.heap (.mp β es) (.mp β (mset es k v)) H) :
    Eff X ⟨none, .insert t x y z, ty, pos, aft, gd⟩ s [.mp β es] (fun s2 => s2 = ⟨s.env, H⟩) := mapSet_core (.inr rfl) hx hy hv hm
end
section
variable {X : Cx} {fn : Func} {R : Ending → World → Prop} {k : List It} {s : St}
/-- a row becomes data: in a slot, and in a box that names it -/
theorem sat_freezeB {x : HL} {rest rest' : List HL} {r r' : D} {j : Nat} {βb : BK} {tb : TypeId} {size : Nat} {c c' : C} {I : Nat → Prop} {a : Act} {w : World} (hj : look s.env j = some r) (hrem : Rem s.heap x rest) (hl : Lend [x] r r') (hA : ∀ b, fps [x] b → ¬ X.may b)
    (hat : At rest (.one βb tb size c) (.one βb tb size c') rest') (hlen : c'.len = c.len) (hc : ∀ e, e < c.len → AllLt size fun f => Lend [x] (c.get e f) (c'.get e f)) (hs : Sat X I s a w) : Sat X (fun b => I b ∨ fps [x] b) ⟨(j, r') :: s.env, rest'⟩ a w := by
  have hp := hrem.perm
  have hx : x.ok I w := hs.heap x (hp.mem_iff.2 (List.mem_cons_self ..))
  have hb : BOk I w βb tb size c := hs.heap _ (hp.mem_iff.2 (List.mem_cons_of_mem _ hat.mem))
  have h1 := sat_freeze hj hrem hl hA hs
  refine h1.turn hat (Same.refl _ _) ⟨by rw [hlen]; exact hb.1, fun hpos => ?_⟩ fun b hb' => ⟨.inl hb', (h1.own b ⟨_, hat.mem, hb'⟩).2.2⟩
  obtain ⟨cs, k1, k2, k3⟩ := hb.2 hpos
  refine ⟨cs, k1, k2, fun e he f hf => ?_⟩
  rw [hlen] at he
  obtain ⟨u, hu, ho, hr⟩ := k3 e he f hf
  exact ⟨u, hu, ho, (hc e he).all f hf I w u (fun h hh => by rw [List.mem_singleton.1 hh]; exact hx) hr⟩
theorem GoO.freezeB {all : Array Oper} {os : List Oper} {x : HL} {rest rest' : List HL} {r r' : D} {j : Nat} {βb : BK} {tb : TypeId} {size : Nat} {g g' : Nat → D} (hj : look s.env j = some r) (hrem : Rem s.heap x rest) (hl : Lend [x] r r') (hA : ∀ b, fps [x] b → ¬ X.may b)
    (hat : At rest (.one βb tb size (st1 g)) (.one βb tb size (st1 g')) rest') (hc : AllLt size fun f => Lend [x] (g f) (g' f)) (h : GoO X fn R all os k ⟨(j, r') :: s.env, rest'⟩) : GoO X fn R all os k s :=
  ⟨fun I a w hs => h.run _ a w (sat_freezeB hj hrem hl hA hat rfl (fun _ _ => hc) hs)⟩
end
end Go.Proofs.Ytgkcmjmofcekmaa.Sx
