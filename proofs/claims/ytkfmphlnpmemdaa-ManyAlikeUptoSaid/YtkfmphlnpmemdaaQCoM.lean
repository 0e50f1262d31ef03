import Derived.Test.YtkfmphlnpmemdaaQCoJ
set_option linter.unusedVariables false
set_option linter.unusedSimpArgs false
namespace Go.Proofs.Ytkfmphlnpmemdaa.Sx
open Go Go.Conc
theorem SatY.freeze {Y : Cy} {I : Nat → Prop} {s : St} {a : Act} {w : World} {O : Nat → Prop} {x : HL} {rest : List HL} {r r' : D} {j : Nat} (h : SatY Y I s a w O) (hj : look s.env j = some r) (hrem : Rem s.heap x rest) (hl : Lend [x] r r') (hA : ∀ b, fps [x] b → ¬ Y.may b) :
    SatY Y (fun b => I b ∨ fps [x] b) ⟨(j, r') :: s.env, rest⟩ a w O := by
  have hs := h.core
  have hp := hrem.perm
  obtain ⟨s1, s2⟩ := List.pairwise_cons.1 (sep_perm hp hs.sep)
  have hx : x ∈ s.heap := hp.mem_iff.2 (List.mem_cons_self ..)
  have hmem : ∀ z, z ∈ rest → z ∈ s.heap := fun z hz => hp.mem_iff.2 (List.mem_cons_of_mem _ hz)
  have hfx : ∀ b, fps [x] b → fps s.heap b := fun b ⟨z, hz, hzb⟩ => ⟨x, hx, by rw [← List.mem_singleton.1 hz]; exact hzb⟩
  have hfr : ∀ b, fps rest b → fps s.heap b := fun b ⟨z, hz, hzb⟩ => ⟨z, hmem z hz, hzb⟩
  have hdis : ∀ b, fps rest b → ¬ (I b ∨ fps [x] b) := by
    rintro b ⟨z, hz, hzb⟩ (hh | ⟨z', hz', hzb'⟩)
    · exact (hs.own b ⟨z, hmem z hz, hzb⟩).1 hh
    · rw [List.mem_singleton.1 hz'] at hzb'
      exact s1 z hz b hzb' hzb
  have hlt : ∀ b, (I b ∨ fps [x] b) → b < w.heap.size := fun b hb => hb.elim (fun h2 => (h.tab.2 b h2).1) fun h2 => (hs.own b (hfx b h2)).2.2
  have tb : Tb Y.P (fun b => I b ∨ fps [x] b) ⟨(j, r') :: s.env, rest⟩ w := ⟨h.tab.1.mono (fun _ h => .inl h) (fun _ _ => rfl), fun b hb => ⟨hlt b hb, fun hf => hdis b hf hb⟩⟩
  refine ⟨tb, ⟨hs.tsz, hs.dfr, fun i e hi => ?_, fun z hz => (hs.heap z (hmem z hz)).mono (fun _ h => .inl h) (fun _ _ => rfl) (fun _ _ => rfl), s2, fun b hb => ⟨hdis b hb, .inr hb, (hs.own b (hfr b hb)).2.2⟩, fun b hb => ⟨hlt b hb, .inl hb⟩, fun b hb => hb, Same.refl _ _⟩,
    fun b hb => h.own b (hfr b hb), fun b hb => ?_, fun b hb => ⟨.inl (h.i0 b hb).1, (h.i0 b hb).2⟩, h.sub, h.olt, h.keep, h.imk, h.os, h.tape, h.output, h.size⟩
  · by_cases hji : j = i
    · subst hji
      have e1 : Nat.beq j j = true := by simp
      have hi' : some r' = some e := by simpa [look, e1] using hi
      cases hi'
      exact hl I w _ (fun z hz => by rw [List.mem_singleton.1 hz]; exact hs.heap x hx) (hs.env j r hj)
    · have e1 : Nat.beq j i = false := by rw [Bool.eq_false_iff]; exact fun e => hji (Nat.eq_of_beq_eq_true e)
      exact (hs.env i e (by simpa [look, e1] using hi)).mono (fun _ h => .inl h) (fun _ _ => rfl)
  · rcases hb with hb | hb
    · exact h.imm b hb
    · obtain ⟨k1, k2⟩ := h.own b (hfx b hb)
      exact .inr ⟨k1, k2.resolve_left (hA b hb)⟩
theorem SatY.freezeB {Y : Cy} {I : Nat → Prop} {s : St} {a : Act} {w : World} {O : Nat → Prop} {x : HL} {rest rest' : List HL} {r r' : D} {j : Nat} {βb : BK} {tb : TypeId} {size : Nat} {c c' : C} (h : SatY Y I s a w O) (hj : look s.env j = some r) (hrem : Rem s.heap x rest) (hl : Lend [x] r r') (hA : ∀ b, fps [x] b → ¬ Y.may b)
    (hat : At rest (.one βb tb size c) (.one βb tb size c') rest') (hlen : c'.len = c.len) (hc : ∀ e, e < c.len → AllLt size fun f => Lend [x] (c.get e f) (c'.get e f)) : SatY Y (fun b => I b ∨ fps [x] b) ⟨(j, r') :: s.env, rest'⟩ a w O := by
  have hp := hrem.perm
  have hx : x.ok I w := h.core.heap x (hp.mem_iff.2 (List.mem_cons_self ..))
  have hb : BOk I w βb tb size c := h.core.heap _ (hp.mem_iff.2 (List.mem_cons_of_mem _ hat.mem))
  have h0 := h.freeze hj hrem hl hA
  have h1 := h0.core
  refine h0.here (h1.turn hat (Same.refl _ _) ⟨by rw [hlen]; exact hb.1, fun hpos => ?_⟩ fun b hb' => ⟨.inl hb', (h1.own b ⟨_, hat.mem, hb'⟩).2.2⟩)
  obtain ⟨cs, k1, k2, k3⟩ := hb.2 hpos
  refine ⟨cs, k1, k2, fun e he f hf => ?_⟩
  rw [hlen] at he
  obtain ⟨u, hu, ho, hr⟩ := k3 e he f hf
  exact ⟨u, hu, ho, (hc e he).all f hf I w u (fun h hh => by rw [List.mem_singleton.1 hh]; exact hx) hr⟩
namespace Y
section
variable {Y : Cy} {s s' : St} {H0 : List HL} {d : Tmp} {ty : TypeId} {pos : String} {aft : Array Edge} {gd : Option (Nat × Bool)} {x y z : Operand} {xt yt : TypeId} {q : D} {m n : Int} {kd k2 : IntKind}
theorem ef_alloc {t : TypeId} {size bytes : Nat} {z : Value} [hz : ZI Y.P t size bytes z] (hd : Nat.blt d Y.nt = true) :
    EffO Y ⟨some d, .alloc t, ty, pos, aft, gd⟩ s [] (fun s2 => ∃ β : BK, s2 = ⟨(d, .ptr β size 0 0) :: s.env, .one β t size (st1 fun f => .v (z.cells.getD f undef)) :: s.heap⟩) :=
  EffO.of fun {w I tb} => ef_allocE hd
theorem ef_boxAg {t : TypeId} {n : Nat} {g : Nat → D} (hx : s.ev x = some (.ag n g)) (hd : Nat.blt d Y.nt = true) :
    EffO Y ⟨some d, .box t x, ty, pos, aft, gd⟩ s [] (fun s2 => ∃ β : BK, s2 = ⟨(d, .ptr β n 0 0) :: s.env, .one β t n (st1 g) :: s.heap⟩) :=
  EffO.of fun {w I tb} => ef_boxAgE hx hd
theorem ef_box {t : TypeId} {n : Nat} {ag : Bool} [ht : TI Y.P t n ag] (hx : s.ev x = some q) (hq : q.one = true) (hd : Nat.blt d Y.nt = true) :
    EffO Y ⟨some d, .box t x, ty, pos, aft, gd⟩ s [] (fun s2 => ∃ β : BK, s2 = ⟨(d, .ptr β 1 0 0) :: s.env, .one β t 1 (st1 fun _ => q) :: s.heap⟩) :=
  EffO.of fun {w I tb} => ef_boxE hx hq hd
theorem ef_store {β : BK} {size e f : Nat} {t te : TypeId} {c c' : C} {H : List HL} [ht : TI Y.P t 1 false] (hx : s.ev x = some (.ptr β size e f)) (hy : s.ev y = some q) (hq : q.one = true)
    (hm : At s.heap (.one β te size c) (.one β te size c') H) (hu : Upd1 size c e f q c') (he : e < c.len) (hf : Nat.blt f size = true) :
    EffO Y ⟨none, .store t x y, ty, pos, aft, gd⟩ s [.one β te size c] (fun s2 => s2 = ⟨s.env, H⟩) :=
  EffO.of fun {w I tb} => ef_storeE hx hy hq hm hu he hf
theorem ef_storeAg {β : BK} {size e f n : Nat} {g : Nat → D} {t te : TypeId} {c c' : C} {H : List HL} [ht : TI Y.P t n true] (hx : s.ev x = some (.ptr β size e f)) (hy : s.ev y = some (.ag n g))
    (hm : At s.heap (.one β te size c) (.one β te size c') H) (hu : UpdN size c e f n g c') (he : e < c.len) (hf : Nat.ble (f + n) size = true) :
    EffO Y ⟨none, .store t x y, ty, pos, aft, gd⟩ s [.one β te size c] (fun s2 => s2 = ⟨s.env, H⟩) :=
  EffO.of fun {w I tb} => ef_storeAgE hx hy hm hu he hf
theorem ef_eqlNil {size len : Nat} {get : Nat → Nat → D} {e xt yt : TypeId} [ht : SlT Y.P xt e] (hx : s.ev x = some (.sl size len get)) (hy : s.ev y = some (.v (.slice none 0 0))) (hd : Nat.blt d Y.nt = true) :
    EffO Y ⟨some d, .binOp .eql xt x y yt, ty, pos, aft, gd⟩ s [] (fun s2 => ∃ b : Bool, (b = true → len = 0) ∧ s2 = s.put d (.v (.bool b))) :=
  EffO.of fun {w I tb} => ef_eqlNilE hx hy hd
theorem ef_makeZ {t e : TypeId} {size bytes : Nat} {z : Value} {m : Int} [ht : SlT Y.P t e] [hz : ZI Y.P e size bytes z] (hx : s.ev x = some (.v (.int .i64 m))) (hy : s.ev y = some (.v (.int .i64 m))) (h0 : 0 ≤ m ∧ m ≤ 10000000000) (hb : Nat.ble bytes 100 = true)
    (hd : Nat.blt d Y.nt = true) (hb1 : Nat.blt 0 bytes = true) :
    EffO Y ⟨some d, .makeSlice t x y, ty, pos, aft, gd⟩ s [] (fun s2 => ∃ β : BK, s2 = ⟨(d, .own β size 0 m.toNat) :: s.env, .one β e size ⟨m.toNat, fun _ f => .v (z.cells.getD f undef)⟩ :: s.heap⟩) :=
  EffO.of fun {w I tb} => ef_makeZE hx hy h0 hb hd hb1
theorem ef_buildSlice (c : C) {t e : TypeId} {size bytes n : Nat} {zv : Value} {ps : List (Nat × Operand)} {l' : List D} [ht : SlT Y.P t e] [hz : ZI Y.P e size bytes zv]
    (hn : Nat.ble (n * size) 16777216 = true) (hp : Parts s (fun i off sz => off = i * size ∧ sz = size) ps ((List.range (n * size)).map fun j => D.v (zv.cells.toList.getD (j % size) undef)) l') (hc : flat size c = l') (hlen : c.len = n) (hs0 : Nat.blt 0 size = true)
    (hd : Nat.blt d Y.nt = true) :
    EffO Y ⟨some d, .buildSlice t n ps.toArray, ty, pos, aft, gd⟩ s [] (fun s2 => ∃ β : BK, s2 = ⟨(d, .own β size 0 n) :: s.env, .one β e size c :: s.heap⟩) :=
  EffO.of fun {w I tb} => ef_buildSliceE c hn hp hc hlen hs0 hd
theorem ef_append {t e : TypeId} {size bytes : Nat} {zv : Value} [ht : SlT Y.P t e] [hz : ZI Y.P e size bytes zv] {β : BK} {r len n : Nat} {c c' : C} {get : Nat → Nat → D} {H : List HL}
    (hx : s.ev x = some (.own β size r len)) (hy : s.ev y = some q) (hrem : Rem s.heap (.one β e size c) H) (hsrc : Src s.heap q size n get) (hcat : Cat size c r len n get c') (hrl : r + len ≤ c.len)
    (hb : (len + n) * bytes ≤ 140737488355328) (hsz : Nat.blt 0 size = true) (hb1 : Nat.blt 0 bytes = true) (hd : Nat.blt d Y.nt = true) :
    EffO Y ⟨some d, .call { callee := .builtin .append, args := #[x, y], argTypes := #[t, t] }, ty, pos, aft, gd⟩ s [.one β e size c] (fun s2 => ∃ β' : BK, s2 = ⟨(d, .own β' size 0 (len + n)) :: s.env, .one β' e size c' :: H⟩) :=
  EffO.of fun {w I tb} => ef_appendE hx hy hrem hsrc hcat hrl hb hsz hb1 hd
end
section
variable {Y : Cy} {fn : Func} {R : Value → World → (Nat → Prop) → Prop} {k : List It} {s s' : St}
section
variable {all : Array Oper} {d : Option Tmp} {op : Op} {ty : TypeId} {pos : String} {aft : Array Edge} {os : List Oper} {j g : Nat} {want : Bool} {t : Tmp}
theorem GoO.guardT (hj : gslot all j = some g) (hg : Nat.blt g Y.nt = true) (hb : look s.env g = some (.v (.bool want))) (h : GoO Y fn R all (⟨d, op, ty, pos, aft, none⟩ :: os) k s) :
    GoO Y fn R all (⟨d, op, ty, pos, aft, some (j, want)⟩ :: os) k s :=
  ⟨fun I a w O hs => by
    have hy := hs.core.yielded hj hg hb
    have h1 := h.run I a w O hs
    simp only [listO, Region.wanted, if_true] at h1
    simp only [listO, Region.wanted, hy, boolOf, beq_self_eq_true, if_true]
    exact h1⟩
theorem GoO.guardN {x : Value} (hj : gslot all j = some g) (hg : Nat.blt g Y.nt = true) (hb : look s.env g = some (.v x)) (hx : boolOf x ≠ some want) (ht : Nat.blt t Y.nt = true)
    (h : GoO Y fn R all os k (s.put t (.v undef))) : GoO Y fn R all (⟨some t, op, ty, pos, aft, some (j, want)⟩ :: os) k s :=
  ⟨fun I a w O hs => by
    have hy := hs.core.yielded hj hg hb
    have hne : (boolOf x == some want) = false := by
      rw [Bool.eq_false_iff]; exact fun e => hx (eq_of_beq e)
    simp only [listO, Region.wanted, hy, hne, Bool.false_eq_true, if_false]
    exact h.run I _ w O (hs.here (hs.core.put (blt_lt ht) rfl))⟩
theorem GoO.guardF (hj : gslot all j = some g) (hg : Nat.blt g Y.nt = true) (hb : look s.env g = some (.v (.bool (!want)))) (ht : Nat.blt t Y.nt = true)
    (h : GoO Y fn R all os k (s.put t (.v undef))) : GoO Y fn R all (⟨some t, op, ty, pos, aft, some (j, want)⟩ :: os) k s :=
  GoO.guardN hj hg hb (by cases want <;> simp [boolOf]) ht h
theorem GoO.guard {b : Bool} (hj : gslot all j = some g) (hg : Nat.blt g Y.nt = true) (hb : look s.env g = some (.v (.bool b))) (ht : Nat.blt t Y.nt = true)
    (h1 : b = want → GoO Y fn R all (⟨some t, op, ty, pos, aft, none⟩ :: os) k (s.put g (.v (.bool want))))
    (h2 : b = (!want) → GoO Y fn R all os k ((s.put g (.v (.bool (!want)))).put t (.v undef))) : GoO Y fn R all (⟨some t, op, ty, pos, aft, some (j, want)⟩ :: os) k s :=
  ⟨fun I a w O hs => by
    have hp : ∀ y, look (s.put g y).env g = some y := fun y => by rw [look_put, if_pos rfl]
    by_cases hw : b = want
    · exact (GoO.guardT hj hg (hp _) (h1 hw)).run I a w O (hs.here (hs.core.reput hb (by rw [hw])))
    · have hw' : b = (!want) := by cases b <;> cases want <;> simp_all
      exact (GoO.guardF hj hg (hp _) ht (h2 hw')).run I a w O (hs.here (hs.core.reput hb (by rw [hw'])))⟩
theorem GoO.guardD {p : Prop} [Decidable p] (hj : gslot all j = some g) (hg : Nat.blt g Y.nt = true) (hb : look s.env g = some (.v (.bool (Decidable.decide p)))) (ht : Nat.blt t Y.nt = true)
    (h1 : p → GoO Y fn R all (⟨some t, op, ty, pos, aft, none⟩ :: os) k (s.put g (.v (.bool true))))
    (h2 : ¬ p → GoO Y fn R all os k ((s.put g (.v (.bool false))).put t (.v undef))) : GoO Y fn R all (⟨some t, op, ty, pos, aft, some (j, true)⟩ :: os) k s :=
  GoO.guard hj hg hb ht (fun h => h1 (of_decide_eq_true h)) (fun h => h2 (of_decide_eq_false h))
theorem GoO.guardE {p : Prop} [Decidable p] (hj : gslot all j = some g) (hg : Nat.blt g Y.nt = true) (hb : look s.env g = some (.v (.bool (Decidable.decide p)))) (ht : Nat.blt t Y.nt = true)
    (h2 : ¬ p → GoO Y fn R all (⟨some t, op, ty, pos, aft, none⟩ :: os) k (s.put g (.v (.bool false))))
    (h1 : p → GoO Y fn R all os k ((s.put g (.v (.bool true))).put t (.v undef))) : GoO Y fn R all (⟨some t, op, ty, pos, aft, some (j, false)⟩ :: os) k s :=
  GoO.guard hj hg hb ht (fun h => h2 (of_decide_eq_false h)) (fun h => h1 (of_decide_eq_true h))
end
theorem GoO.lenLe {all : Array Oper} {os : List Oper} {n : Nat} {x : Operand} {q : D} (hx : s.ev x = some q) (hl : LenOf q n) (hq : ∀ I w v, Rd I w q v → n ≤ maxLen) (h : n ≤ maxLen → GoO Y fn R all os k s) : GoO Y fn R all os k s :=
  ⟨fun I a w O hs => (h (hq _ _ _ (hs.core.ev hx))).run I a w O hs⟩
theorem GoK.meet {env : List (Nat × D)} {rest : List HL} {J : List (Nat × D) → List HL → Prop} {v : List (Nat × D)} {h : List HL} (hj : J v h) (he : EnvD s.env (v ++ env)) (ht : TkD s.heap (h ++ rest)) :
    GoK Y fn R (.again (Meet env rest J) :: k) s := GoK.le (s' := ⟨v ++ env, h ++ rest⟩) (Le.ofD he ht) (GoK.again ⟨v, h, hj, rfl⟩)
theorem GoK.againJ {env : List (Nat × D)} {rest : List HL} {J : Nat → List (Nat × D) → List HL → Prop} {n : Nat} (n' : Nat) {v : List (Nat × D)} {h : List HL} (hn : n' < n) (hj : J n' v h) (he : EnvD s.env (v ++ env)) (ht : TkD s.heap (h ++ rest)) :
    GoK Y fn R (.again (fun s'' => ∃ n' v h, n' < n ∧ J n' v h ∧ s'' = ⟨v ++ env, h ++ rest⟩) :: k) s :=
  GoK.le (s' := ⟨v ++ env, h ++ rest⟩) (Le.ofD he ht) (GoK.again ⟨n', v, h, hn, hj, rfl⟩)
theorem GoC.loopJ {c : Code} (env : List (Nat × D)) (rest : List HL) (J : Nat → List (Nat × D) → List HL → Prop) (m : Nat) {v0 : List (Nat × D)} {h0 : List HL} (hj : J m v0 h0) (he : EnvD s.env (v0 ++ env)) (ht : TkD s.heap (h0 ++ rest))
    (round : ∀ n v h, J n v h → GoC Y fn R c (.again (fun s'' => ∃ n' v h, n' < n ∧ J n' v h ∧ s'' = ⟨v ++ env, h ++ rest⟩) :: k) ⟨v ++ env, h ++ rest⟩) : GoC Y fn R (.loop c) k s := by
  refine GoC.le (s' := ⟨v0 ++ env, h0 ++ rest⟩) (Le.ofD he ht) (GoC.loop (fun n s' => ∃ v h, J n v h ∧ s' = ⟨v ++ env, h ++ rest⟩) m ⟨v0, h0, hj, rfl⟩ fun n s' ⟨v, h, hj, e⟩ => ?_)
  subst e
  refine ⟨fun I a w O hs => wpO_mono ((round n v h hj).run I a w O hs) fun e a w O hq => ?_⟩
  cases e with
  | normal => obtain ⟨s2, I2, ⟨n', v', h', hn, hj', e⟩, hs2⟩ := hq; exact ⟨s2, I2, ⟨n', hn, v', h', hj', e⟩, hs2⟩
  | exit id => exact hq
  | goto l => exact hq
  | ret => exact hq
  | panic ch => exact hq
  | outgrown => exact hq
theorem kont_again {J : St → Prop} {c : Code} (h1 : ∀ I a w O, SatY Y I s a w O → wpO Y.P Y.main Y.Im Y.f c (Kont Y fn R (.again J :: k)) a w O) (h2 : ∀ s', J s' → GoK Y fn R k s') {I : Nat → Prop} {a : Act} {w : World} {O : Nat → Prop} (hs : SatY Y I s a w O) :
    wpO Y.P Y.main Y.Im Y.f c (Kont Y fn R k) a w O := wpO_mono (h1 I a w O hs) fun e a w O hq => by
  cases e with
  | normal => obtain ⟨s2, I2, hj, hs2⟩ := hq; exact (h2 s2 hj).run I2 a w O hs2
  | exit id => exact hq
  | goto l => exact hq
  | ret => exact hq
  | panic ch => exact hq
  | outgrown => exact hq
theorem GoC.seqJ {x y : Code} (env : List (Nat × D)) (rest : List HL) (J : List (Nat × D) → List HL → Prop) (h1 : GoC Y fn R x (.again (Meet env rest J) :: .code y :: k) s)
    (h2 : ∀ v h, J v h → GoC Y fn R y k ⟨v ++ env, h ++ rest⟩) : GoC Y fn R (.seq x y) k s :=
  GoC.seq ⟨fun I a w O hs => kont_again (fun I a w O hs => h1.run I a w O hs) (fun s' ⟨v, h, hj, e⟩ => e ▸ GoK.code (h2 v h hj)) hs⟩
theorem GoC.blockJ {id : Nat} {c : Code} (env : List (Nat × D)) (rest : List HL) (J : List (Nat × D) → List HL → Prop) (h1 : GoC Y fn R c (.blk id :: .again (Meet env rest J) :: k) s)
    (h2 : ∀ v h, J v h → GoK Y fn R k ⟨v ++ env, h ++ rest⟩) : GoC Y fn R (.block id c) k s :=
  ⟨fun I a w O hs => kont_again (fun I a w O hs => (GoC.block h1).run I a w O hs) (fun s' ⟨v, h, hj, e⟩ => e ▸ h2 v h hj) hs⟩
theorem GoO.freezeJ {all : Array Oper} {os : List Oper} {x : HL} {rest : List HL} {r r' : D} {j : Nat} (hj : look s.env j = some r) (hrem : Rem s.heap x rest) (hl : Lend [x] r r') (hA : ∀ b, fps [x] b → ¬ Y.may b) (h : GoO Y fn R all os k ⟨(j, r') :: s.env, rest⟩) : GoO Y fn R all os k s :=
  ⟨fun I a w O hs => h.run _ a w O (hs.freeze hj hrem hl hA)⟩
theorem GoO.freezeB {all : Array Oper} {os : List Oper} {x : HL} {rest rest' : List HL} {r r' : D} {j : Nat} {βb : BK} {tb : TypeId} {size : Nat} {g g' : Nat → D} (hj : look s.env j = some r) (hrem : Rem s.heap x rest) (hl : Lend [x] r r') (hA : ∀ b, fps [x] b → ¬ Y.may b)
    (hat : At rest (.one βb tb size (st1 g)) (.one βb tb size (st1 g')) rest') (hc : AllLt size fun f => Lend [x] (g f) (g' f)) (h : GoO Y fn R all os k ⟨(j, r') :: s.env, rest'⟩) : GoO Y fn R all os k s :=
  ⟨fun I a w O hs => h.run _ a w O (hs.freezeB hj hrem hl hA hat rfl (fun _ _ => hc))⟩
theorem GoC.exactJ {c : Code} (j : Nat) {β : BK} {size len : Nat} (hj : look s.env j = some (.own β size 0 len)) (h : ∀ a m, Exact β len a m → GoC Y fn R c k ⟨(j, .v (.slice a len m)) :: s.env, s.heap⟩) : GoC Y fn R c k s :=
  ⟨fun I a w O hs => by
    obtain ⟨ad, cap, hv, h1, h2, h3, h4⟩ := hs.core.env j _ hj
    refine (h ad cap ⟨h1, h2, by omega, fun h0 => by simpa using h4 h0⟩).run I a w O (hs.here (hs.core.weaken (fun i d hd => ?_) (List.Sublist.refl _)))
    have hd' : _root_.cond (Nat.beq j i) (some (D.v (.slice ad len cap))) (look s.env i) = some d := hd
    by_cases hji : j = i
    · subst hji
      simp only [Nat.beq_refl, cond_true, Option.some.injEq] at hd'
      subst hd'
      exact hv
    · have hb : Nat.beq j i = false := by rw [Bool.eq_false_iff]; exact fun e => hji (Nat.eq_of_beq_eq_true e)
      rw [hb] at hd'
      exact hs.core.env i d hd'⟩
end
end Y
end Go.Proofs.Ytkfmphlnpmemdaa.Sx
