import Derived.Test.YtkfmphlnpmemdaaQCoF
set_option linter.unusedVariables false
set_option linter.unusedSimpArgs false
namespace Go.Proofs.Ytkfmphlnpmemdaa.Sx
open Go Go.Conc
namespace Y
def ResD (X : Cx) (s : St) (r : ResultVar) (d : D) : Prop :=
  Sx.ResD X s r d ∧ ∀ I a w, Sat X I s a w → ∀ es, ∀ e ∈ (resV a.tmps r).events X.P w es, e ∈ es ∨ ∃ ad : Addr, e.loc = .cell ad ∧ fps s.heap ad.block
theorem ResD.tmp {X : Cx} {s : St} {t : Tmp} {d : D} (h : look s.env t = some d) : ResD X s (.tmp t) d := ⟨Sx.ResD.tmp h, fun I a w hs es e he => .inl he⟩
theorem ResD.cellAg {X : Cx} {s : St} {p : Tmp} {t te : TypeId} {β : BK} {size e n : Nat} {c : C} {H : List HL} [ht : TI X.P t n true] (h : look s.env p = some (.ptr β size e 0)) (hm : At s.heap (.one β te size c) (.one β te size c) H) (he : e < c.len) (hf : Nat.ble n size = true) :
    ResD X s (.cell p t) (.ag n (fun j => c.get e j)) := ⟨Sx.ResD.cellAg h hm he hf, fun I a w hs es ev hev => by
  have hv : a.tmps.getD p undef = .pointer (some ⟨β.b, β.o + (e * size + 0), none⟩) := hs.env p _ h
  have hb : BOk _ w β te size c := hs.heap _ hm.mem
  have hpos : 0 < β.s := by have := hb.1; omega
  have hf' := Nat.le_of_ble_eq_true hf
  have hc : ∀ j, j < n → ((w.cell? ((⟨β.b, β.o + (e * size + 0), none⟩ : Addr).add (0 + j)))).isSome := fun j hj => by
    obtain ⟨u, h⟩ := hb.cell he (show j < size by omega)
    rw [Nat.zero_add, addr_add, show β.o + (e * size + 0) + j = β.o + (e * size + j) by omega, h.1]; rfl
  have hev' : ev ∈ (loadCells ⟨β.b, β.o + (e * size + 0), none⟩ n).events X.P w es := by
    simpa [resV, hv, asAddr, loadVar, ht.agg, ht.size] using hev
  rcases events_loadCellsFrom_at (P := X.P) ⟨β.b, β.o + (e * size + 0), none⟩ (fun x => x = β.b) rfl n 0 #[] w es hc ev hev' with h | ⟨ad, k1, k2, k3⟩
  · exact .inl h
  · exact .inr ⟨ad, k1, by rw [k3]; exact ⟨_, hm.mem, hpos, rfl⟩⟩⟩
def ResL (X : Cx) (s : St) : List ResultVar → List D → Prop
  | [], ds => ds = []
  | r :: rs, ds => ∃ d l, ds = d :: l ∧ ResD X s r d ∧ ResL X s rs l
theorem ResL.nil {X : Cx} {s : St} : ResL X s [] [] := rfl
theorem ResL.cons {X : Cx} {s : St} {r : ResultVar} {rs : List ResultVar} {d : D} {l : List D} (h : ResD X s r d) (h' : ResL X s rs l) : ResL X s (r :: rs) (d :: l) := ⟨d, l, rfl, h, h'⟩
theorem ResL.lone {X : Cx} {s : St} : ∀ {rs : List ResultVar} {ds : List D}, ResL X s rs ds → Sx.ResL X s rs ds
  | [], _, h => h
  | _ :: _, _, ⟨d, l, e, h1, h2⟩ => ⟨d, l, e, h1.1, h2.lone⟩
theorem ResL.ev {X : Cx} {s : St} {I : Nat → Prop} {a : Act} {w : World} (hs : Sat X I s a w) : ∀ {rs : List ResultVar} {ds : List D}, ResL X s rs ds → ∀ es, ∀ e ∈ (rs.mapM (resV a.tmps)).events X.P w es, e ∈ es ∨ ∃ ad : Addr, e.loc = .cell ad ∧ fps s.heap ad.block
  | [], _, h, es, e, he => .inl (by simpa using he)
  | r :: rs, _, ⟨d, l, _, h1, h2⟩, es, e, he => by
    obtain ⟨v, hv, hr⟩ := h1.1 I a w hs
    obtain ⟨vs, hvs, _⟩ := Sx.ResL.run hs h2.lone
    rw [List.mapM_cons] at he
    simp only [Sem.events_bind, hv, hvs, Result.evThen, Sem.events_pure] at he
    rcases ResL.ev hs h2 _ e he with h | h
    · exact h1.2 I a w hs es e h
    · exact .inr h
def RetY (Y : Cy) (post : D → List HL → Prop) (v : Value) (w' : World) (O' : Nat → Prop) : Prop :=
  ∃ d H' N, post d H' ∧ Rd (Or' Y.I0 N) w' d v ∧ HOk (Or' Y.I0 N) w' H' ∧ (∀ b, N b → b < w'.heap.size ∧ O' b ∧ ¬ Y.O0 b) ∧ (∀ b, fps H' b → O' b ∧ (Y.may b ∨ ¬ Y.O0 b)) ∧ (∀ b, Y.O0 b → O' b) ∧ (∀ b, O' b → b < w'.heap.size) ∧
    (∀ b, Y.O0 b → ¬ Y.may b → w'.heap[b]? = Y.w0.heap[b]?) ∧ (∀ b, Y.I0 b → w'.heap[b]? = Y.w0.heap[b]?) ∧ w'.os = Y.w0.os ∧ w'.tape = Y.w0.tape ∧ w'.output = Y.w0.output ∧ Y.w0.heap.size ≤ w'.heap.size
def Does (P : Program) (f : FuncId) (args : List D) (H : List HL) (post : D → List HL → Prop) : Prop :=
  ∀ (main : Mn) (Im I : Nat → Prop) (w : World) (vs : List Value) (O : Nat → Prop), RdL I w args vs → HOk I w H → (∀ b, fps H b → O b) → (∀ b, I b → b < w.heap.size ∧ (Im b ∨ O b)) → (∀ b, O b → b < w.heap.size) → Tab P I w →
    CallsO P main Im f vs.toArray w O (RetY ⟨P, 0, main, f, w, fps H, I, O, Im⟩ post)
def DoesM (P : Program) (main : Mn) (Im : Nat → Prop) (f : FuncId) (args : List D) (H : List HL) (post : D → List HL → Prop) : Prop :=
  ∀ (I : Nat → Prop) (w : World) (vs : List Value) (O : Nat → Prop), RdL I w args vs → HOk I w H → (∀ b, fps H b → O b) → (∀ b, I b → b < w.heap.size ∧ (Im b ∨ O b)) → (∀ b, O b → b < w.heap.size) → Tab P I w → (∀ b, Im b → I b) →
    CallsO P main Im f vs.toArray w O (RetY ⟨P, 0, main, f, w, fps H, I, O, Im⟩ post)
def DoesC (Y : Cy) (f : FuncId) (args : List D) (H : List HL) (post : D → List HL → Prop) : Prop :=
  ∀ (I : Nat → Prop) (w : World) (vs : List Value) (O : Nat → Prop), RdL I w args vs → HOk I w H → (∀ b, fps H b → O b) → (∀ b, I b → b < w.heap.size ∧ (Y.Im b ∨ O b)) → (∀ b, O b → b < w.heap.size) → Tab Y.P I w → (∀ b, Y.I0 b → I b) →
    CallsO Y.P Y.main Y.Im f vs.toArray w O (RetY ⟨Y.P, 0, Y.main, f, w, fps H, I, O, Y.Im⟩ post)
theorem Does.c {Y : Cy} {f : FuncId} {args : List D} {H : List HL} {post : D → List HL → Prop} (h : Does Y.P f args H post) : DoesC Y f args H post := fun I w vs O a b c d e g _ => h Y.main Y.Im I w vs O a b c d e g
theorem DoesM.c {Y : Cy} {f : FuncId} {args : List D} {H : List HL} {post : D → List HL → Prop} (h : DoesM Y.P Y.main Y.Im f args H post) (hIm : ∀ b, Y.Im b → Y.I0 b) : DoesC Y f args H post := fun I w vs O a b c d e g k => h I w vs O a b c d e g fun b hb => k b (hIm b hb)
section
variable {Y : Cy} {fn : Func} {post : D → List HL → Prop} {k : List It} {s : St} {H' rest : List HL}
theorem retY {I : Nat → Prop} {a : Act} {w : World} {v : Value} {d : D} {O : Nat → Prop} (hs : SatY Y I s a w O) (ht : Take s.heap H' rest) (hp : post d H') (hr : Rd I w d v) : RetY Y post v w O := by
  have hp' := ht.perm
  have hmem : ∀ z, z ∈ H' → z ∈ s.heap := fun z hz => hp'.mem_iff.2 (List.mem_append_left _ hz)
  have hI : ∀ b, I b → Or' Y.I0 (fun b => I b ∧ O b ∧ ¬ Y.O0 b) b := fun b hb => (hs.imm b hb).imp id fun h => ⟨hb, h⟩
  refine ⟨d, H', fun b => I b ∧ O b ∧ ¬ Y.O0 b, hp, hr.mono hI fun _ _ => rfl, ⟨fun z hz => (hs.core.heap z (hmem z hz)).mono hI (fun _ _ => rfl) (fun _ _ => rfl), (List.pairwise_append.1 (sep_perm hp' hs.core.sep)).1, fun b ⟨z, hz, hzb⟩ => ⟨fun h => ?_, (hs.core.own b ⟨z, hmem z hz, hzb⟩).2.2⟩⟩,
    fun b hb => ⟨(hs.tab.2 b hb.1).1, hb.2⟩, fun b ⟨z, hz, hzb⟩ => hs.own b ⟨z, hmem z hz, hzb⟩, hs.sub, hs.olt, hs.keep, hs.imk, hs.os, hs.tape, hs.output, hs.size⟩
  rcases h with h | h
  · exact (hs.core.own b ⟨z, hmem z hz, hzb⟩).1 (hs.i0 b h).1
  · exact (hs.core.own b ⟨z, hmem z hz, hzb⟩).1 h.1
theorem retL_body {rs : List ResultVar} {ds : List D} (hf : fn.results = rs.toArray) (h1 : ∀ {w : World} {I : Nat → Prop} {tb : Tb Y.P I s w}, ResL ⟨Y.P, Y.nt, w, fps s.heap, I, [], tb⟩ s rs ds) (ht : Take s.heap H' rest) (hp : post (tupD ds) H')
    {I : Nat → Prop} {a : Act} {w : World} {O : Nat → Prop} (hs : SatY Y I s a w O) : bodyPost Y fn (RetY Y post) .ret a w O := by
  refine ⟨hs.core.dfr, fun w₁ hr₁ => ?_⟩
  have hs1 := hs.rely hr₁
  have hL := @h1 w₁ I hs1.tab
  obtain ⟨vs, hvs, hl, hh⟩ := Sx.ResL.run hs1.core hL.lone
  have hvs' : (rs.mapM (resV a.tmps)).run Y.P w₁ = .ok vs w₁ := hvs
  have em : (rs.toArray.mapM (resV a.tmps)) = (do let x ← rs.mapM (resV a.tmps); Pure.pure x.toArray) := by simp [← List.mapM_toArray]
  refine ⟨if h : vs.toArray.size = 1 then vs.toArray[0] else .tuple vs.toArray, ?_, ?_, retY hs1 ht hp ?_⟩
  · rw [results_eq, hf]
    simp only [Sem.run_bind]
    rw [em]
    simp [hvs']
  · have hidle := Guar.idle Y.Im O w₁
    refine ⟨hidle.os, hidle.tape, hidle.output, hidle.size, hidle.block, fun e he => ?_⟩
    rw [results_eq, hf] at he
    rw [Sem.events_bind, em] at he
    have he' : e ∈ (rs.mapM (resV a.tmps)).events Y.P w₁ #[] := by
      simpa [Sem.events_bind, hvs', Result.evThen] using he
    rcases ResL.ev hs1.core hL #[] e he' with h | ⟨ad, k1, k2⟩
    · exact absurd h (Array.not_mem_empty _)
    · exact hs1.evs (w' := w₁) (.inl ⟨ad, k1, .inr (.inl k2)⟩)
  · match ds, hl, hh with
    | [d], hl, hh =>
      match vs, hl with
      | [v], _ =>
        obtain ⟨u, h3, h4⟩ := hh 0 (by simp)
        have : v = u := by simpa using h3
        subst this
        exact h4
    | [], hl, hh =>
      match vs, hl with
      | [], _ => exact ⟨#[], rfl, rfl, fun i hi => absurd hi (by simp)⟩
    | d :: d2 :: l, hl, hh =>
      match vs, hl with
      | v :: v2 :: vs, hl =>
        refine ⟨(v :: v2 :: vs).toArray, by simp, by simpa using hl, fun i hi => ?_⟩
        obtain ⟨u, h3, h4⟩ := hh i hi
        exact ⟨u, by simpa using h3, h4⟩
theorem GoC.retL {rs : List ResultVar} {ds : List D} (hf : fn.results = rs.toArray) (h1 : ∀ {w : World} {I : Nat → Prop} {tb : Tb Y.P I s w}, ResL ⟨Y.P, Y.nt, w, fps s.heap, I, [], tb⟩ s rs ds) (ht : Take s.heap H' rest) (hp : post (tupD ds) H') :
    GoC Y fn (RetY Y post) .ret k s := ⟨fun I a w O hs => wpO_ret (Kont_ret (retL_body hf (fun {w I tb} => @h1 w I tb) ht hp hs))⟩
theorem GoK.retL {rs : List ResultVar} {ds : List D} (hf : fn.results = rs.toArray) (h1 : ∀ {w : World} {I : Nat → Prop} {tb : Tb Y.P I s w}, ResL ⟨Y.P, Y.nt, w, fps s.heap, I, [], tb⟩ s rs ds) (ht : Take s.heap H' rest) (hp : post (tupD ds) H') :
    GoK Y fn (RetY Y post) [] s := ⟨fun I a w O hs => retL_body hf (fun {w I tb} => @h1 w I tb) ht hp hs⟩
end
structure CyA where
  w : World
  main : Mn
  O : Nat → Prop
  Im : Nat → Prop
theorem Does.intro {P : Program} {fn : Func} {nt : Nat} {post : D → List HL → Prop} {H0 : List HL} {f : FuncId} {c : Code} {args : List D} (hf : P.funcs[f]? = some fn) (hb : fn.body = some c) (hn : fn.ntmps = nt) (ha : Nat.ble args.length nt = true)
    (h : ∀ (A : CyA) (I0 : Nat → Prop) (tb : Unit), GoC ⟨P, nt, A.main, f, A.w, fps H0, I0, A.O, A.Im⟩ fn (RetY ⟨P, nt, A.main, f, A.w, fps H0, I0, A.O, A.Im⟩ post) c [] ⟨argEnv 0 args, H0⟩) (hname : (fn.name == "runtime.NumGoroutine") = false := by rfl) : Does P f args H0 post := fun main Im I w vs O h1 h2 hO hI hlt h4 => by
  have hlen := RdL.length h1
  have hle := Nat.le_of_ble_eq_true ha
  refine ⟨fn, c, hf, hname, hb, wpO_mono ((h ⟨w, main, O, Im⟩ I ()).run I _ w O ?_) fun e a' w' O' q => ?_⟩
  · have tb : Tb P I ⟨argEnv 0 args, H0⟩ w := ⟨h4, fun b hb => ⟨(hI b hb).1, fun hm => (h2.own b hm).1 hb⟩⟩
    refine ⟨tb, ⟨?_, rfl, fun j e hj => ?_, h2.ok, h2.sep, fun b hb => ⟨(h2.own b hb).1, .inr hb, (h2.own b hb).2⟩, fun b hb => ⟨(hI b hb).1, .inl hb⟩, fun _ h => h, Same.refl _ _⟩, fun b hb => ⟨hO b hb, .inl hb⟩, fun b hb => .inl hb, fun b hb => ⟨hb, (hI b hb).2⟩, fun b hb => hb, hlt, fun _ _ _ => rfl, fun _ _ => rfl, rfl, rfl, rfl, Nat.le_refl _⟩
    · simp [hlen, hn, Cx.here]; omega
    · obtain ⟨_, v, h4, h5⟩ := look_argEnv 0 h1 j e hj
      have h6 : vs[j]? = some v := by simpa using h4
      have hj' : j < vs.length := (List.getElem?_eq_some_iff.1 h6).1
      have h7 : (vs.toArray ++ Array.replicate (fn.ntmps - vs.toArray.size) undef).getD j undef = v := by
        simp only [Array.getD_eq_getD_getElem?]
        rw [Array.getElem?_append_left (by simpa using hj')]
        simp [h6]
      rw [h7]
      exact h5
  · cases e <;> first | exact q | exact q.elim
structure CyB where
  w : World
  O : Nat → Prop
theorem DoesM.intro {P : Program} {main : Mn} {Im : Nat → Prop} {fn : Func} {nt : Nat} {post : D → List HL → Prop} {H0 : List HL} {f : FuncId} {c : Code} {args : List D} (hf : P.funcs[f]? = some fn) (hb : fn.body = some c) (hn : fn.ntmps = nt) (ha : Nat.ble args.length nt = true)
    (h : ∀ (A : CyB) (I0 : Nat → Prop) (hIm : ∀ b, Im b → I0 b), GoC ⟨P, nt, main, f, A.w, fps H0, I0, A.O, Im⟩ fn (RetY ⟨P, nt, main, f, A.w, fps H0, I0, A.O, Im⟩ post) c [] ⟨argEnv 0 args, H0⟩) (hname : (fn.name == "runtime.NumGoroutine") = false := by rfl) : DoesM P main Im f args H0 post := fun I w vs O h1 h2 hO hI hlt h4 hIm => by
  have hlen := RdL.length h1
  have hle := Nat.le_of_ble_eq_true ha
  refine ⟨fn, c, hf, hname, hb, wpO_mono ((h ⟨w, O⟩ I hIm).run I _ w O ?_) fun e a' w' O' q => ?_⟩
  · have tb : Tb P I ⟨argEnv 0 args, H0⟩ w := ⟨h4, fun b hb => ⟨(hI b hb).1, fun hm => (h2.own b hm).1 hb⟩⟩
    refine ⟨tb, ⟨?_, rfl, fun j e hj => ?_, h2.ok, h2.sep, fun b hb => ⟨(h2.own b hb).1, .inr hb, (h2.own b hb).2⟩, fun b hb => ⟨(hI b hb).1, .inl hb⟩, fun _ h => h, Same.refl _ _⟩, fun b hb => ⟨hO b hb, .inl hb⟩, fun b hb => .inl hb, fun b hb => ⟨hb, (hI b hb).2⟩, fun b hb => hb, hlt, fun _ _ _ => rfl, fun _ _ => rfl, rfl, rfl, rfl, Nat.le_refl _⟩
    · simp [hlen, hn, Cx.here]; omega
    · obtain ⟨_, v, h4, h5⟩ := look_argEnv 0 h1 j e hj
      have h6 : vs[j]? = some v := by simpa using h4
      have hj' : j < vs.length := (List.getElem?_eq_some_iff.1 h6).1
      have h7 : (vs.toArray ++ Array.replicate (fn.ntmps - vs.toArray.size) undef).getD j undef = v := by
        simp only [Array.getD_eq_getD_getElem?]
        rw [Array.getElem?_append_left (by simpa using hj')]
        simp [h6]
      rw [h7]
      exact h5
  · cases e <;> first | exact q | exact q.elim
end Y
namespace Y
def EffO (Y : Cy) (o : Oper) (s : St) (wr : List HL) (next : St → Prop) : Prop :=
  ∀ I a w O, SatY Y I s a w O → opO Y.P Y.main Y.Im o (fun a' w' O' => ((∀ b, (I b ∨ fps s.heap b) → ¬ fps wr b → w'.heap[b]? = w.heap[b]?) ∧ (∀ b, O b → O' b) ∧ w.heap.size ≤ w'.heap.size) ∧ ∃ s', next s' ∧ SatY Y I s' a' w' O') a w O
theorem EffO.of {Y : Cy} {o : Oper} {s : St} {wr : List HL} {next : St → Prop} (he : ∀ {w : World} {I : Nat → Prop} {tb : Tb Y.P I s w}, EffE ⟨Y.P, Y.nt, w, fps s.heap, I, [], tb⟩ o s wr next) : EffO Y o s wr next := fun I a w O hs =>
  opO_eff hs (fun {w I tb} => @he w I tb) fun w₁ a' w' s' hs1 hr hsame hn hs' => ⟨⟨fun b hb hw => by
    have hlt : b < w.heap.size := hb.elim (fun h => (hs.tab.2 b h).1) fun h => (hs.core.own b h).2.2
    have h1 : w₁.heap[b]? = w.heap[b]? := hr.block b hlt (hb.elim (fun h => hs.imO h) fun h => .inr (hs.own b h).1)
    exact (hsame.block b (Nat.lt_of_lt_of_le hlt hr.size) hw).trans h1, fun b hb => .inl hb, Nat.le_trans hr.size hsame.size⟩, s', hn, hs'⟩
section
variable {Y : Cy} {fn : Func} {R : Value → World → (Nat → Prop) → Prop} {k : List It} {s s' : St} {all : Array Oper} {os : List Oper} {d : Option Tmp} {op : Op} {ty : TypeId} {pos : String} {aft : Array Edge}
theorem GoO.eff {wr : List HL} {next : St → Prop} (he : EffO Y ⟨d, op, ty, pos, aft, none⟩ s wr next) (h : ∀ s', next s' → GoO Y fn R all os k s') : GoO Y fn R all (⟨d, op, ty, pos, aft, none⟩ :: os) k s :=
  ⟨fun I a w O hs => listO_cons rfl (opO_mono (fun a' w' O' ⟨_, s', hn, hs'⟩ => (h s' hn).run I a' w' O' hs') (he I a w O hs))⟩
theorem GoO.eff1 {wr : List HL} (he : EffO Y ⟨d, op, ty, pos, aft, none⟩ s wr (fun s2 => s2 = s')) (h : GoO Y fn R all os k s') : GoO Y fn R all (⟨d, op, ty, pos, aft, none⟩ :: os) k s := GoO.eff he fun _ e => e ▸ h
theorem GoO.effB {wr : List HL} {F : BK → St} (he : EffO Y ⟨d, op, ty, pos, aft, none⟩ s wr (fun s2 => ∃ β, s2 = F β)) (h : ∀ β, GoO Y fn R all os k (F β)) : GoO Y fn R all (⟨d, op, ty, pos, aft, none⟩ :: os) k s := GoO.eff he fun _ ⟨β, e⟩ => e ▸ h β
theorem GoO.effC {wr : List HL} {post : D → List HL → Prop} {F : D → List HL → St} (he : EffO Y ⟨d, op, ty, pos, aft, none⟩ s wr (fun s2 => ∃ r H', post r H' ∧ s2 = F r H')) (h : ∀ r H', post r H' → GoO Y fn R all os k (F r H')) :
    GoO Y fn R all (⟨d, op, ty, pos, aft, none⟩ :: os) k s := GoO.eff he fun _ ⟨r, H', hp, e⟩ => e ▸ h r H' hp
end
def Enters (Y : Cy) (s : St) (o : Oper) (f : FuncId) (ds : List D) : Prop :=
  ∀ I a w (tb : Tb Y.P I s w), Sat (Cx.here Y.P Y.nt I s w tb) I s a w → ∃ vs : List Value, (execOp a.eval o).run Y.P w = .ok (.enter f vs.toArray) w ∧
    (∀ fn, Y.P.funcs[f]? = some fn → (fn.name == "runtime.NumGoroutine") = false → fn.body.isNone = false → (execOp a.eval o).events Y.P w #[] = #[]) ∧ RdL I w ds vs
theorem call_opM (fz : Bool) {Y : Cy} {s : St} {d : Tmp} {op : Op} {ty : TypeId} {pos : String} {aft : Array Edge} {gd : Option (Nat × Bool)} {f : FuncId} {ds ds' : List D} {Hin rest L rest' : List HL} {post : D → List HL → Prop}
    (hx : Enters Y s ⟨some d, op, ty, pos, aft, gd⟩ f ds) (ht : Take s.heap Hin rest) (hL : Take rest L rest') (spec : DoesC Y f ds' Hin post) (hl : LendL L ds ds') (hd : Nat.blt d Y.nt = true)
    (hfz : cond fz (∀ b, fps L b → ¬ Y.may b) (IndepP post)) {I : Nat → Prop} {a : Act} {w : World} {O : Nat → Prop} (hs0 : SatY Y I s a w O) :
    opO Y.P Y.main Y.Im ⟨some d, op, ty, pos, aft, gd⟩ (fun a' w' O' => ((∀ b, (I b ∨ fps s.heap b) → ¬ fps Hin b → w'.heap[b]? = w.heap[b]?) ∧ (∀ b, O b → O' b) ∧ w.heap.size ≤ w'.heap.size) ∧
      ∃ s2, (∃ r H', post r H' ∧ s2 = ⟨(d, r) :: s.env, H' ++ cond fz rest' rest⟩) ∧ ∃ I', (fz = false → I' = I) ∧ (∀ b, I b → I' b) ∧ SatY Y I' s2 a' w' O') a w O := by
  intro w₁ hr₁
  have hs := hs0.rely hr₁
  have hc := hs.core
  have hp := ht.perm
  have hpL := hL.perm
  have hrest : ∀ h, h ∈ rest → h ∈ s.heap := fun h hh => hp.mem_iff.2 (List.mem_append_right _ hh)
  have hin : ∀ h, h ∈ Hin → h ∈ s.heap := fun h hh => hp.mem_iff.2 (List.mem_append_left _ hh)
  have hLr : ∀ h, h ∈ L → h ∈ rest := fun h hh => hpL.mem_iff.2 (List.mem_append_left _ hh)
  have hRr : ∀ h, h ∈ rest' → h ∈ rest := fun h hh => hpL.mem_iff.2 (List.mem_append_right _ hh)
  have hfL : ∀ b, fps L b → fps rest b := fun b ⟨z, hz, hzb⟩ => ⟨z, hLr z hz, hzb⟩
  have hfr : ∀ b, fps rest b → fps s.heap b := fun b ⟨z, hz, hzb⟩ => ⟨z, hrest z hz, hzb⟩
  have hfi : ∀ b, fps Hin b → fps s.heap b := fun b ⟨z, hz, hzb⟩ => ⟨z, hin z hz, hzb⟩
  obtain ⟨hs1, hs2, hs3⟩ := List.pairwise_append.1 (sep_perm hp hc.sep)
  obtain ⟨vs, hr, hev0, hvs⟩ := hx I a w₁ hs.tab hc
  have hargs := RdL.lend (H := L) (fun h hh => hc.heap h (hrest h (hLr h hh))) hl hvs
  have hcall := spec (fun b => I b ∨ fps L b) w₁ _ O hargs ⟨fun h hh => (hc.heap h (hin h hh)).mono (fun _ h => .inl h) (fun _ _ => rfl) (fun _ _ => rfl), hs1, fun b ⟨z, hz, hzb⟩ => by
      obtain ⟨o1, _, o3⟩ := hc.own b ⟨z, hin z hz, hzb⟩
      refine ⟨fun hh => ?_, o3⟩
      rcases hh with hh | hh
      · exact o1 hh
      · obtain ⟨z', hz', hzb'⟩ := hfL b hh
        exact hs3 z hz z' hz' b hzb hzb'⟩ (fun b hb => (hs.own b (hfi b hb)).1) (fun b hb => by
      rcases hb with hb | hb
      · exact ⟨(hs.tab.2 b hb).1, hs.imO hb⟩
      · exact ⟨(hc.own b (hfr b (hfL b hb))).2.2, .inr (hs.own b (hfr b (hfL b hb))).1⟩) hs.olt (hs.tab.1.mono (fun _ h => .inl h) (fun _ _ => rfl)) (fun b hb => .inl (hs.i0 b hb).1)
  have hev : (execOp a.eval ⟨some d, op, ty, pos, aft, gd⟩).events Y.P w₁ #[] = #[] := by
    obtain ⟨fn, c, q1, q2, q3, _⟩ := hcall
    exact hev0 fn q1 q2 (by rw [q3]; rfl)
  rw [hr, hev]
  refine ⟨rfl, rfl, hcall.mono ?_⟩
  · rintro v w' O' ⟨r, H', N, hpost, hr, hok, hN, hfp, hsub, holt, hkeep, himk, e1, e2, e3, e4⟩
    have hIe : ∀ b, I b → w'.heap[b]? = w₁.heap[b]? := fun b hb => himk b (.inl hb)
    have hRe : ∀ b, fps s.heap b → ¬ fps Hin b → w'.heap[b]? = w₁.heap[b]? := fun b hb hn => hkeep b (hs.own b hb).1 hn
    have hRest : ∀ b, fps rest b → ¬ fps Hin b := fun b ⟨z', hz', hzb'⟩ ⟨z, hz, hzb⟩ => hs3 z hz z' hz' b hzb hzb'
    have hkept : ∀ b, (I b ∨ fps s.heap b) → ¬ fps Hin b → w'.heap[b]? = w.heap[b]? := fun b hb hn => by
      have hlt : b < w.heap.size := hb.elim (fun h => (hs0.tab.2 b h).1) fun h => (hs0.core.own b h).2.2
      have h1 : w₁.heap[b]? = w.heap[b]? := hr₁.block b hlt (hb.elim (fun h => hs0.imO h) fun h => .inr (hs0.own b h).1)
      exact (hb.elim (hIe b) fun h => hRe b h hn).trans h1
    refine ⟨⟨hkept, hsub, Nat.le_trans hr₁.size e4⟩, _, ⟨r, H', hpost, rfl⟩, ?_⟩
    have hkeepY : ∀ b, Y.O0 b → ¬ Y.may b → w'.heap[b]? = Y.w0.heap[b]? := fun b hb hm => by
      refine (hkeep b (hs.sub b hb) fun hf => ?_).trans (hs.keep b hb hm)
      exact (hs.own b (hfi b hf)).2.elim hm fun hn => hn hb
    have himkY : ∀ b, Y.I0 b → w'.heap[b]? = Y.w0.heap[b]? := fun b hb => (hIe b (hs.i0 b hb).1).trans (hs.imk b hb)
    cases fz with
    | false =>
      have hind := hfz r H' hpost
      have hNoI : Rd I w' r v := (hind.1 _ _ _ hr).mono (fun _ h => h.elim) (fun _ _ => rfl)
      refine ⟨I, fun _ => rfl, fun _ h => h, ?_⟩
      have hown' : ∀ b, fps (H' ++ rest) b → ¬ I b ∧ b < w'.heap.size ∧ O' b ∧ (Y.may b ∨ ¬ Y.O0 b) := by
        rintro b ⟨z, hz, hzb⟩
        rcases List.mem_append.1 hz with hz | hz
        · obtain ⟨k1, k2⟩ := hfp b ⟨z, hz, hzb⟩
          refine ⟨fun hi => (hok.own b ⟨z, hz, hzb⟩).1 (.inl (.inl hi)), (hok.own b ⟨z, hz, hzb⟩).2, k1, ?_⟩
          rcases k2 with k2 | k2
          · exact (hs.own b (hfi b k2)).2
          · exact .inr fun h => k2 (hs.sub b h)
        · have k := hs.own b (hfr b ⟨z, hz, hzb⟩)
          exact ⟨(hc.own b (hfr b ⟨z, hz, hzb⟩)).1, Nat.lt_of_lt_of_le (hc.own b (hfr b ⟨z, hz, hzb⟩)).2.2 e4, hsub b k.1, k.2⟩
      have hsep' : Sep (H' ++ rest) := List.pairwise_append.2 ⟨hok.sep, hs2, fun z hz z' hz' b hb hb' => by
        rcases (hfp b ⟨z, hz, hb⟩).2 with ⟨u, hu, hub⟩ | h1
        · exact hs3 u hu z' hz' b hub hb'
        · exact h1 (hs.own b (hfr b ⟨z', hz', hb'⟩)).1⟩
      have hheap' : ∀ z, z ∈ H' ++ rest → z.ok I w' := fun z hz => by
        rcases List.mem_append.1 hz with hz | hz
        · exact (hind.2 z hz _ _ (hok.ok z hz)).mono (fun _ h => h.elim) (fun _ _ => rfl) (fun _ _ => rfl)
        · exact (hc.heap z (hrest z hz)).mono (fun _ h => h) hIe fun b hb => hRe b (hfr b ⟨z, hz, hb⟩) (hRest b ⟨z, hz, hb⟩)
      have tb : Tb Y.P I ⟨(d, r) :: s.env, H' ++ rest⟩ w' := ⟨hs.tab.1.mono (fun _ h => h) hIe, fun b hb => ⟨Nat.lt_of_lt_of_le (hs.tab.2 b hb).1 e4, fun hf => (hown' b hf).1 hb⟩⟩
      refine ⟨tb, ?_, fun b hb => (hown' b hb).2.2, fun b hb => (hs.imm b hb).imp id fun ⟨x, y⟩ => ⟨hsub b x, y⟩, hs.i0, fun b hb => hsub b (hs.sub b hb), holt, hkeepY, himkY, e1.trans hs.os, e2.trans hs.tape, e3.trans hs.output, Nat.le_trans hs.size e4⟩
      exact Sat.put (X := Cx.here Y.P Y.nt I ⟨(d, r) :: s.env, H' ++ rest⟩ w' tb) (s := ⟨s.env, H' ++ rest⟩) ⟨hc.tsz, hc.dfr, fun j e hj => (hc.env j e hj).mono (fun _ h => h) hIe, hheap', hsep', fun b hb => ⟨(hown' b hb).1, .inr hb, (hown' b hb).2.1⟩, fun b hb => ⟨Nat.lt_of_lt_of_le (hs.tab.2 b hb).1 e4, .inl hb⟩, fun b hb => hb, Same.refl _ _⟩ (blt_lt hd) hNoI
    | true =>
      obtain ⟨hq1, hq2, hq3⟩ := List.pairwise_append.1 (sep_perm hpL hs2)
      have hmay : ∀ b, fps L b → ¬ Y.may b := hfz
      have hLe : ∀ b, fps L b → w'.heap[b]? = w₁.heap[b]? := fun b hb => hRe b (hfr b (hfL b hb)) (hRest b (hfL b hb))
      refine ⟨Or' (Or' I (fps L)) N, (fun h => by cases h), fun b hb => .inl (.inl hb), ?_⟩
      have hown' : ∀ b, fps (H' ++ rest') b → ¬ Or' (Or' I (fps L)) N b ∧ b < w'.heap.size ∧ O' b ∧ (Y.may b ∨ ¬ Y.O0 b) := by
        rintro b ⟨z, hz, hzb⟩
        rcases List.mem_append.1 hz with hz | hz
        · obtain ⟨k1, k2⟩ := hfp b ⟨z, hz, hzb⟩
          refine ⟨fun hi => (hok.own b ⟨z, hz, hzb⟩).1 hi, (hok.own b ⟨z, hz, hzb⟩).2, k1, ?_⟩
          rcases k2 with k2 | k2
          · exact (hs.own b (hfi b k2)).2
          · exact .inr fun h => k2 (hs.sub b h)
        · have k0 := hfr b ⟨z, hRr z hz, hzb⟩
          have k := hs.own b k0
          refine ⟨fun hi => ?_, Nat.lt_of_lt_of_le (hc.own b k0).2.2 e4, hsub b k.1, k.2⟩
          rcases hi with (hi | ⟨z', hz', hzb'⟩) | hi
          · exact (hc.own b k0).1 hi
          · exact hq3 z' hz' z hz b hzb' hzb
          · exact (hN b hi).2.2 k.1
      have hsep' : Sep (H' ++ rest') := List.pairwise_append.2 ⟨hok.sep, hq2, fun z hz z' hz' b hb hb' => by
        rcases (hfp b ⟨z, hz, hb⟩).2 with ⟨u, hu, hub⟩ | h1
        · exact hs3 u hu z' (hRr z' hz') b hub hb'
        · exact h1 (hs.own b (hfr b ⟨z', hRr z' hz', hb'⟩)).1⟩
      have hheap' : ∀ z, z ∈ H' ++ rest' → z.ok (Or' (Or' I (fps L)) N) w' := fun z hz => by
        rcases List.mem_append.1 hz with hz | hz
        · exact hok.ok z hz
        · exact (hc.heap z (hrest z (hRr z hz))).mono (fun _ h => .inl (.inl h)) hIe fun b hb => hRe b (hfr b ⟨z, hRr z hz, hb⟩) (hRest b ⟨z, hRr z hz, hb⟩)
      have hlt' : ∀ b, Or' (Or' I (fps L)) N b → b < w'.heap.size := by
        rintro b ((hb | hb) | hb)
        · exact Nat.lt_of_lt_of_le (hs.tab.2 b hb).1 e4
        · exact Nat.lt_of_lt_of_le (hc.own b (hfr b (hfL b hb))).2.2 e4
        · exact (hN b hb).1
      have tb : Tb Y.P (Or' (Or' I (fps L)) N) ⟨(d, r) :: s.env, H' ++ rest'⟩ w' := ⟨hs.tab.1.mono (fun _ h => .inl (.inl h)) hIe, fun b hb => ⟨hlt' b hb, fun hf => (hown' b hf).1 hb⟩⟩
      refine ⟨tb, ?_, fun b hb => (hown' b hb).2.2, ?_, fun b hb => ⟨.inl (.inl (hs.i0 b hb).1), (hs.i0 b hb).2⟩, fun b hb => hsub b (hs.sub b hb), holt, hkeepY, himkY, e1.trans hs.os, e2.trans hs.tape, e3.trans hs.output, Nat.le_trans hs.size e4⟩
      · exact Sat.put (X := Cx.here Y.P Y.nt (Or' (Or' I (fps L)) N) ⟨(d, r) :: s.env, H' ++ rest'⟩ w' tb) (s := ⟨s.env, H' ++ rest'⟩) ⟨hc.tsz, hc.dfr, fun j e hj => (hc.env j e hj).mono (fun _ h => .inl (.inl h)) hIe, hheap', hsep', fun b hb => ⟨(hown' b hb).1, .inr hb, (hown' b hb).2.1⟩, fun b hb => ⟨hlt' b hb, .inl hb⟩, fun b hb => hb, Same.refl _ _⟩ (blt_lt hd) hr
      · rintro b ((hb | hb) | hb)
        · exact (hs.imm b hb).imp id fun ⟨x, y⟩ => ⟨hsub b x, y⟩
        · have k := hs.own b (hfr b (hfL b hb))
          exact .inr ⟨hsub b k.1, k.2.resolve_left (hmay b hb)⟩
        · exact .inr ⟨(hN b hb).2.1, fun h => (hN b hb).2.2 (hs.sub b h)⟩
theorem call_opH (fz : Bool) {Y : Cy} {s : St} {d : Tmp} {op : Op} {ty : TypeId} {pos : String} {aft : Array Edge} {gd : Option (Nat × Bool)} {f : FuncId} {ds ds' : List D} {Hin rest L rest' : List HL} {post : D → List HL → Prop}
    (hx : Enters Y s ⟨some d, op, ty, pos, aft, gd⟩ f ds) (ht : Take s.heap Hin rest) (hL : Take rest L rest') (spec : Does Y.P f ds' Hin post) (hl : LendL L ds ds') (hd : Nat.blt d Y.nt = true)
    (hfz : cond fz (∀ b, fps L b → ¬ Y.may b) (IndepP post)) {I : Nat → Prop} {a : Act} {w : World} {O : Nat → Prop} (hs0 : SatY Y I s a w O) :
    opO Y.P Y.main Y.Im ⟨some d, op, ty, pos, aft, gd⟩ (fun a' w' O' => ((∀ b, (I b ∨ fps s.heap b) → ¬ fps Hin b → w'.heap[b]? = w.heap[b]?) ∧ (∀ b, O b → O' b) ∧ w.heap.size ≤ w'.heap.size) ∧
      ∃ s2, (∃ r H', post r H' ∧ s2 = ⟨(d, r) :: s.env, H' ++ cond fz rest' rest⟩) ∧ ∃ I', (fz = false → I' = I) ∧ (∀ b, I b → I' b) ∧ SatY Y I' s2 a' w' O') a w O :=
  call_opM fz hx ht hL spec.c hl hd hfz hs0
theorem enters_func {Y : Cy} {s : St} {d : Tmp} {ty : TypeId} {pos : String} {aft : Array Edge} {gd : Option (Nat × Bool)} {f : FuncId} [hf : FnT Y.P f] {xs : List Operand} {ats : Array TypeId} {ds : List D} (hx : evL s xs = some ds) :
    Enters Y s ⟨some d, .call { callee := .value (.func f), args := xs.toArray, argTypes := ats }, ty, pos, aft, gd⟩ f ds := fun I a w tb hs =>
  ⟨xs.map a.eval, by simp [execOp, resolve, Act.eval, Deferred.ofValue, invoke, hf.run], fun fn q1 q2 q3 => events_call_body rfl q1 q2 q3 #[], hs.evL hx⟩
theorem enters_fn {Y : Cy} {s : St} {d : Tmp} {ty : TypeId} {pos : String} {aft : Array Edge} {gd : Option (Nat × Bool)} {f : FuncId} [hf : FnT Y.P f] {xs : List Operand} {ats : Array TypeId} {c : Operand} {n : Nat} {ds cs : List D} (hc : s.ev c = some (.fn f n (nth cs))) (hn : n = cs.length) (hx : evL s xs = some ds) :
    Enters Y s ⟨some d, .call { callee := .value c, args := xs.toArray, argTypes := ats }, ty, pos, aft, gd⟩ f (ds ++ cs) := fun I a w tb hs => by
  subst hn
  obtain ⟨us, e, h1, h2⟩ := hs.ev hc
  refine ⟨xs.map a.eval ++ us.toList, ?_, fun fn q1 q2 q3 => ?_, RdL.append (hs.evL hx) (RdL.of_nth (by simpa using h1) fun i hi => ?_)⟩
  · have hr := hf.run
    simp [execOp, resolve, e, Deferred.ofValue, invoke, hr]
  · have h1 : ¬ fn.name = "runtime.NumGoroutine" := by simpa using q2
    have h2 : ¬ fn.body = none := by cases hx : fn.body <;> simp_all
    simp [execOp, resolve, e, Deferred.ofValue, invoke, callFunc, q1, h1, h2]
  · obtain ⟨u, h3, h4⟩ := h2 i hi
    exact ⟨u, by simpa using h3, h4⟩
theorem call_opO (fz : Bool) {Y : Cy} {s : St} {d : Tmp} {ty : TypeId} {pos : String} {aft : Array Edge} {gd : Option (Nat × Bool)} {f : FuncId} [hf : FnT Y.P f] {xs : List Operand} {ats : Array TypeId} {ds ds' : List D} {Hin rest L rest' : List HL} {post : D → List HL → Prop}
    (hx : evL s xs = some ds) (ht : Take s.heap Hin rest) (hL : Take rest L rest') (spec : Does Y.P f ds' Hin post) (hl : LendL L ds ds') (hd : Nat.blt d Y.nt = true)
    (hfz : cond fz (∀ b, fps L b → ¬ Y.may b) (IndepP post)) {I : Nat → Prop} {a : Act} {w : World} {O : Nat → Prop} (hs0 : SatY Y I s a w O) :
    opO Y.P Y.main Y.Im ⟨some d, .call { callee := .value (.func f), args := xs.toArray, argTypes := ats }, ty, pos, aft, gd⟩ (fun a' w' O' => ((∀ b, (I b ∨ fps s.heap b) → ¬ fps Hin b → w'.heap[b]? = w.heap[b]?) ∧ (∀ b, O b → O' b) ∧ w.heap.size ≤ w'.heap.size) ∧
      ∃ s2, (∃ r H', post r H' ∧ s2 = ⟨(d, r) :: s.env, H' ++ cond fz rest' rest⟩) ∧ ∃ I', (fz = false → I' = I) ∧ (∀ b, I b → I' b) ∧ SatY Y I' s2 a' w' O') a w O :=
  call_opH fz (enters_func hx) ht hL spec hl hd hfz hs0
theorem ef_callv {Y : Cy} {s : St} {d : Tmp} {ty : TypeId} {pos : String} {aft : Array Edge} {gd : Option (Nat × Bool)} {f : FuncId} [hf : FnT Y.P f] {xs : List Operand} {ats : Array TypeId} {c : Operand} {n : Nat} {ds cs ds' : List D} {Hin rest L rest' : List HL} {post : D → List HL → Prop}
    (hc : s.ev c = some (.fn f n (nth cs))) (hn : n = cs.length) (hx : evL s xs = some ds) (ht : Take s.heap Hin rest) (hL : Take rest L rest') (spec : Does Y.P f ds' Hin post) (hl : LendL L (ds ++ cs) ds') (hd : Nat.blt d Y.nt = true) (hi : IndepP post) :
    EffO Y ⟨some d, .call { callee := .value c, args := xs.toArray, argTypes := ats }, ty, pos, aft, gd⟩ s Hin (fun s2 => ∃ r H', post r H' ∧ s2 = ⟨(d, r) :: s.env, H' ++ rest⟩) := fun I a w O hs =>
  opO_mono (fun a' w' O' ⟨h1, s2, h2, I', h3, _, h4⟩ => ⟨h1, s2, h2, h3 rfl ▸ h4⟩) (call_opH false (enters_fn hc hn hx) ht hL spec hl hd hi hs)
def EffG (Y : Cy) (o : Oper) (s : St) (wr : List HL) (next : St → Prop) : Prop :=
  ∀ I a w O, SatY Y I s a w O → opO Y.P Y.main Y.Im o (fun a' w' O' => ((∀ b, (I b ∨ fps s.heap b) → ¬ fps wr b → w'.heap[b]? = w.heap[b]?) ∧ (∀ b, O b → O' b) ∧ w.heap.size ≤ w'.heap.size) ∧ ∃ s', next s' ∧ ∃ I', (∀ b, I b → I' b) ∧ SatY Y I' s' a' w' O') a w O
theorem ef_callK {Y : Cy} {s : St} {d : Tmp} {ty : TypeId} {pos : String} {aft : Array Edge} {gd : Option (Nat × Bool)} {f : FuncId} [hf : FnT Y.P f] {xs : List Operand} {ats : Array TypeId} {ds ds' : List D} {Hin rest L rest' : List HL} {post : D → List HL → Prop}
    (hx : evL s xs = some ds) (ht : Take s.heap Hin rest) (hL : Take rest L rest') (spec : Does Y.P f ds' Hin post) (hl : LendL L ds ds') (hd : Nat.blt d Y.nt = true) (hm : ∀ b, fps L b → ¬ Y.may b) :
    EffG Y ⟨some d, .call { callee := .value (.func f), args := xs.toArray, argTypes := ats }, ty, pos, aft, gd⟩ s Hin (fun s2 => ∃ r H', post r H' ∧ s2 = ⟨(d, r) :: s.env, H' ++ rest'⟩) := fun I a w O hs =>
  opO_mono (fun a' w' O' ⟨h1, s2, h2, I', _, h3, h4⟩ => ⟨h1, s2, h2, I', h3, h4⟩) (call_opO true hx ht hL spec hl hd hm hs)
theorem ef_call {Y : Cy} {s : St} {d : Tmp} {ty : TypeId} {pos : String} {aft : Array Edge} {gd : Option (Nat × Bool)} {f : FuncId} [hf : FnT Y.P f] {xs : List Operand} {ats : Array TypeId} {ds ds' : List D} {Hin rest L rest' : List HL} {post : D → List HL → Prop}
    (hx : evL s xs = some ds) (ht : Take s.heap Hin rest) (hL : Take rest L rest') (spec : Does Y.P f ds' Hin post) (hl : LendL L ds ds') (hd : Nat.blt d Y.nt = true) (hi : IndepP post) :
    EffO Y ⟨some d, .call { callee := .value (.func f), args := xs.toArray, argTypes := ats }, ty, pos, aft, gd⟩ s Hin (fun s2 => ∃ r H', post r H' ∧ s2 = ⟨(d, r) :: s.env, H' ++ rest⟩) := fun I a w O hs =>
  opO_mono (fun a' w' O' ⟨h1, s2, h2, I', h3, _, h4⟩ => ⟨h1, s2, h2, h3 rfl ▸ h4⟩) (call_opO false hx ht hL spec hl hd hi hs)
theorem GoO.callF {Y : Cy} {fn : Func} {R : Value → World → (Nat → Prop) → Prop} {k : List It} {s : St} {all : Array Oper} {os : List Oper} {d : Tmp} {ty : TypeId} {pos : String} {aft : Array Edge} {f : FuncId} [hf : FnT Y.P f] {xs : List Operand} {ats : Array TypeId} {ds ds' : List D} {Hin rest L rest' : List HL} {post : D → List HL → Prop}
    (hx : evL s xs = some ds) (ht : Take s.heap Hin rest) (hL : Take rest L rest') (spec : Does Y.P f ds' Hin post) (hl : LendL L ds ds') (hd : Nat.blt d Y.nt = true) (hm : ∀ b, fps L b → ¬ Y.may b)
    (h : ∀ r H', post r H' → GoO Y fn R all os k ⟨(d, r) :: s.env, H' ++ rest'⟩) :
    GoO Y fn R all (⟨some d, .call { callee := .value (.func f), args := xs.toArray, argTypes := ats }, ty, pos, aft, none⟩ :: os) k s :=
  ⟨fun I a w O hs => listO_cons rfl (opO_mono (fun a' w' O' ⟨_, s2, ⟨r, H', hp, e⟩, I', _, _, h4⟩ => by subst e; exact (h r H' hp).run I' a' w' O' h4) (call_opO true hx ht hL spec hl hd hm hs))⟩
theorem GoO.callFM {Y : Cy} {fn : Func} {R : Value → World → (Nat → Prop) → Prop} {k : List It} {s : St} {all : Array Oper} {os : List Oper} {d : Tmp} {ty : TypeId} {pos : String} {aft : Array Edge} {f : FuncId} [hf : FnT Y.P f] {xs : List Operand} {ats : Array TypeId} {ds ds' : List D} {Hin rest L rest' : List HL} {post : D → List HL → Prop}
    (hx : evL s xs = some ds) (ht : Take s.heap Hin rest) (hL : Take rest L rest') (spec : DoesM Y.P Y.main Y.Im f ds' Hin post) (hIm : ∀ b, Y.Im b → Y.I0 b) (hl : LendL L ds ds') (hd : Nat.blt d Y.nt = true) (hm : ∀ b, fps L b → ¬ Y.may b)
    (h : ∀ r H', post r H' → GoO Y fn R all os k ⟨(d, r) :: s.env, H' ++ rest'⟩) :
    GoO Y fn R all (⟨some d, .call { callee := .value (.func f), args := xs.toArray, argTypes := ats }, ty, pos, aft, none⟩ :: os) k s :=
  ⟨fun I a w O hs => listO_cons rfl (opO_mono (fun a' w' O' ⟨_, s2, ⟨r, H', hp, e⟩, I', _, _, h4⟩ => by subst e; exact (h r H' hp).run I' a' w' O' h4) (call_opM true (enters_func hx) ht hL (spec.c hIm) hl hd hm hs))⟩
end Y
end Go.Proofs.Ytkfmphlnpmemdaa.Sx
