/- Calls that may panic with a value that somebody recovers: throws. A contract tells both ends: what is handed back, and what is thrown. Plain laws over any program. -/
import Derived.Test.YtgkcmjmofcekmaaSxP
import Derived.Recover
namespace Go.Proofs.Ytgkcmjmofcekmaa.Sx
open Go
set_option linter.unusedVariables false
set_option linter.unusedSimpArgs false

inductive Thr (α β : Type) where
  | ok (a : α)
  | ex (b : β)
def Thr.on {α β γ : Type} (q : Thr α β) (f : β → Option γ) (g : α → Option γ) : Option γ := match q with
  | .ok a => g a
  | .ex b => f b
theorem on_ok {α β γ : Type} {a : α} {f : β → Option γ} {g : α → Option γ} {c : γ} (h : (Thr.ok a : Thr α β).on f g = some c) : g a = some c := h
theorem on_ex {α β γ : Type} {b : β} {f : β → Option γ} {g : α → Option γ} {c : γ} (h : (Thr.ex b : Thr α β).on f g = some c) : f b = some c := h
theorem IndepP.ok {α β : Type} {out : Thr α β} {P : α → D → List HL → Prop} (h : ∀ o, IndepP (P o)) : IndepP (fun d H => ∃ o, out = .ok o ∧ P o d H) := fun d H ⟨o, _, hp⟩ => h o d H hp
theorem IndepP.ex {α β : Type} {out : Thr α β} {P : β → D → List HL → Prop} (h : ∀ o, IndepP (P o)) : IndepP (fun d H => ∃ o, out = .ex o ∧ P o d H) := fun d H ⟨o, _, hp⟩ => h o d H hp

/-- The call has panicked with one value: what it reads as, and which rows are as they should be. -/
def ThrOk (w0 : World) (I0 : Nat → Prop) (H : List HL) (thr : D → List HL → Prop) (e : Ending) (w' : World) : Prop :=
  ∃ v d H' N, e = .panicked [{ v := v, recovered := false }] ∧ thr d H' ∧ Rd (Or' I0 N) w' d v ∧ HOk (Or' I0 N) w' H' ∧ (∀ b, N b → w0.heap.size ≤ b ∧ b < w'.heap.size) ∧ (∀ b, fps H' b → fps H b ∨ w0.heap.size ≤ b) ∧ Same w0 w' (fps H)
def EndOk (w0 : World) (I0 : Nat → Prop) (H : List HL) (post thr : D → List HL → Prop) (e : Ending) (w' : World) : Prop := RetOk w0 I0 H post e w' ∨ ThrOk w0 I0 H thr e w'
def DoesT (P : Program) (f : FuncId) (args : List D) (H : List HL) (post thr : D → List HL → Prop) : Prop :=
  ∀ (I : Nat → Prop) (w : World) (vs : List Value), RdL I w args vs → HOk I w H → (∀ b, I b → b < w.heap.size) → Tab P I w → Calls P f vs.toArray w (EndOk w I H post thr)
theorem DoesT.mono {P : Program} {f : FuncId} {args : List D} {H : List HL} {post post' thr thr' : D → List HL → Prop} (h : DoesT P f args H post thr) (hp : ∀ d H', post d H' → post' d H') (ht : ∀ d H', thr d H' → thr' d H') : DoesT P f args H post' thr' :=
  fun I w vs h1 h2 h3 h4 => (h I w vs h1 h2 h3 h4).mono fun _ _ he => he.imp (fun ⟨v, d, H', N, e, hpo, r⟩ => ⟨v, d, H', N, e, hp d H' hpo, r⟩) (fun ⟨v, d, H', N, e, hpo, r⟩ => ⟨v, d, H', N, e, ht d H' hpo, r⟩)
theorem DoesT.does {P : Program} {f : FuncId} {args : List D} {H : List HL} {post thr : D → List HL → Prop} (h : DoesT P f args H post thr) (ht : ∀ d H', ¬ thr d H') : Does P f args H post :=
  fun I w vs h1 h2 h3 h4 => (h I w vs h1 h2 h3 h4).mono fun _ _ he => he.elim id (fun ⟨_, d, H', _, _, hpo, _⟩ => (ht d H' hpo).elim)

theorem DoesT.freeze {P : Program} {f : FuncId} {args : List D} {post post' thr : D → List HL → Prop} (h : DoesT P f args [] post thr) (hf : ∀ d H, post d H → ∃ d', post' d' [] ∧ Lend H d d') : DoesT P f args [] post' thr := fun I w vs h1 h2 h3 h4 =>
  (h I w vs h1 h2 h3 h4).mono (by
    rintro e w' (⟨v, d, H', N, he, hp, hr, hok, hN, hfp, hs⟩ | ht)
    · obtain ⟨d', hp', hl⟩ := hf d H' hp
      have hfr : ∀ b, fps H' b → w.heap.size ≤ b ∧ b < w'.heap.size := fun b hb => ⟨(hfp b hb).resolve_left (fun hb => by obtain ⟨z, hz, _⟩ := hb; cases hz), (hok.own b hb).2⟩
      refine .inl ⟨v, d', [], fun b => N b ∨ fps H' b, he, hp', ?_, ⟨fun z hz => (by cases hz), List.Pairwise.nil, fun b hb => (by obtain ⟨z, hz, _⟩ := hb; cases hz)⟩, fun b hb => hb.elim (hN b) (hfr b), fun b hb => (by obtain ⟨z, hz, _⟩ := hb; cases hz), hs⟩
      refine (hl _ w' v hok.ok hr).mono (fun b hb => ?_) (fun _ _ => rfl)
      rcases hb with (hb | hb) | hb
      · exact .inl hb
      · exact .inr (.inl hb)
      · exact .inr (.inr hb)
    · exact .inr ht)

/-- Here d is thrown. -/
structure GoT (X : Cx) (fn : Func) (R : Ending → World → Prop) (s : St) (d : D) : Prop where
  run : ∀ I a w v, Sat X I s a w → Rd I w d v → bodyPostX X fn R (.panic [{ v := v, recovered := false }]) a w

section
variable {P : Program} {fn : Func} {nt : Nat} {w0 : World} {I0 : Nat → Prop} {H0 : List HL} {tb : TB P w0 I0 H0} {post thr : D → List HL → Prop} {k : List It} {s : St} {d : D} {H' rest : List HL}
theorem GoC.retLT {rs : List ResultVar} {ds : List D} (hf : fn.results = rs.toArray) (h1 : ResL ⟨P, nt, w0, fps H0, I0, [], tb⟩ s rs ds) (ht : Take s.heap H' rest) (hp : post (tupD ds) H') :
    GoC ⟨P, nt, w0, fps H0, I0, [], tb⟩ fn (EndOk w0 I0 H0 post thr) .ret k s := ⟨fun I a w hs => wp_ret (Kont_ret (retL_body hf h1 ht hp (fun _ _ h => .inl h) hs))⟩
theorem GoK.retLT {rs : List ResultVar} {ds : List D} (hf : fn.results = rs.toArray) (h1 : ResL ⟨P, nt, w0, fps H0, I0, [], tb⟩ s rs ds) (ht : Take s.heap H' rest) (hp : post (tupD ds) H') :
    GoK ⟨P, nt, w0, fps H0, I0, [], tb⟩ fn (EndOk w0 I0 H0 post thr) [] s := ⟨fun I a w hs => retL_body hf h1 ht hp (fun _ _ h => .inl h) hs⟩
theorem thrOk {I : Nat → Prop} {a : Act} {w : World} {v : Value} {l : List Deferred} (hs : Sat ⟨P, nt, w0, fps H0, I0, l, tb⟩ I s a w) (ht : Take s.heap H' rest) (hp : thr d H') (hr : Rd I w d v) : ThrOk w0 I0 H0 thr (.panicked [{ v := v, recovered := false }]) w := by
  have hp' := ht.perm
  have hmem : ∀ z, z ∈ H' → z ∈ s.heap := fun z hz => hp'.mem_iff.2 (List.mem_append_left _ hz)
  have hI : ∀ b, I b → Or' I0 (fun b => I b ∧ w0.heap.size ≤ b) b := fun b hb => ((hs.imm b hb).2).imp id fun h => ⟨hb, h⟩
  refine ⟨v, d, H', fun b => I b ∧ w0.heap.size ≤ b, rfl, hp, hr.mono hI fun _ _ => rfl, ⟨fun z hz => (hs.heap z (hmem z hz)).mono hI (fun _ _ => rfl) (fun _ _ => rfl), (List.pairwise_append.1 (sep_perm hp' hs.sep)).1, fun b ⟨z, hz, hzb⟩ => ⟨fun h => ?_, (hs.own b ⟨z, hmem z hz, hzb⟩).2.2⟩⟩,
    fun b hb => ⟨hb.2, (hs.imm b hb.1).1⟩, fun b ⟨z, hz, hzb⟩ => (hs.own b ⟨z, hmem z hz, hzb⟩).2.1.symm, hs.same⟩
  rcases h with h | h
  · exact (hs.own b ⟨z, hmem z hz, hzb⟩).1 (hs.i0 b h)
  · exact (hs.own b ⟨z, hmem z hz, hzb⟩).1 h.1
theorem GoT.ends (ht : Take s.heap H' rest) (hp : thr d H') : GoT ⟨P, nt, w0, fps H0, I0, [], tb⟩ fn (EndOk w0 I0 H0 post thr) s d :=
  ⟨fun I a w v hs hr => ⟨hs.dfr, .inr (thrOk hs ht hp hr)⟩⟩
theorem DoesT.intro {f : FuncId} {c : Code} {args : List D} (hf : P.funcs[f]? = some fn) (hb : fn.body = some c) (hn : fn.ntmps = nt) (ha : Nat.ble args.length nt = true)
    (h : ∀ w0 I0, ∀ tb : TB P w0 I0 H0, GoC ⟨P, nt, w0, fps H0, I0, [], tb⟩ fn (EndOk w0 I0 H0 post thr) c [] ⟨argEnv 0 args, H0⟩) : DoesT P f args H0 post thr := fun I w vs h1 h2 h3 h4 => by
  have hlen := RdL.length h1
  have hle := Nat.le_of_ble_eq_true ha
  refine calls_of_wp_defers hf hb (wp_mono (Q' := bodyPostD P fn _) (Q := bodyPostX ⟨P, nt, w, fps H0, I, [], ⟨h4, fun b hb => ⟨h3 b hb, fun hm => (h2.own b hm).1 hb⟩⟩⟩ fn _) ?_ fun e a w h => h.toD)
  refine ((h w I ⟨h4, fun b hb => ⟨h3 b hb, fun hm => (h2.own b hm).1 hb⟩⟩).run I _ w ⟨?_, rfl, fun j e hj => ?_, h2.ok, h2.sep, fun b hb => ⟨(h2.own b hb).1, .inr hb, (h2.own b hb).2⟩, fun b hb => ⟨h3 b hb, .inl hb⟩, fun _ h => h, Same.refl _ _⟩)
  · simp [hlen, hn]; omega
  · obtain ⟨_, v, h4, h5⟩ := look_argEnv 0 h1 j e hj
    have h6 : vs[j]? = some v := by simpa using h4
    have hj' : j < vs.length := (List.getElem?_eq_some_iff.1 h6).1
    have h7 : (vs.toArray ++ Array.replicate (fn.ntmps - vs.toArray.size) undef).getD j undef = v := by
      simp only [Array.getD_eq_getD_getElem?]
      rw [Array.getElem?_append_left (by simpa using hj')]
      simp [h6]
    rw [h7]
    exact h5
end

section
variable {X : Cx} {fn : Func} {R : Ending → World → Prop} {k : List It} {s s' : St} {all : Array Oper} {os : List Oper} {d : Tmp} {ty : TypeId} {pos : String} {aft : Array Edge} {gd : Option (Nat × Bool)} {x y : Operand} {q : D} {H0 : List HL} {p : Plan} {i j0 : Nat}
theorem GoT.le {s2 : St} {d0 : D} (hl : Le s s2) (h : GoT X fn R s2 d0) : GoT X fn R s d0 := ⟨fun I a w v hs hr => h.run I a w v (hl _ _ _ _ hs) hr⟩
theorem GoO.panic {dd : Option Tmp} {t : TypeId} {v : Value} (hx : s.ev x = some (.v (.iface t v))) (h : GoT X fn R s (.v (.iface t v))) : GoO X fn R all (⟨dd, .panic x, ty, pos, aft, none⟩ :: os) k s :=
  ⟨fun I a w hs => wpList_plain rfl fun K hK => by
    have hv : a.eval x = .iface t v := hs.ev hx
    unfold Oper.wp
    have : (execOp a.eval ⟨dd, .panic x, ty, pos, aft, none⟩).run X.P w = .halt (.panic (.iface t v)) w := by
      simp [execOp, Instr.panic, hv, goPanic]
    rw [this]
    exact Kont_throw (h.run I a w _ hs rfl)⟩

/-- A value of a type that is no interface becomes one. -/
class NoIfc (P : Program) (t : TypeId) : Prop where
  h : ∃ u, P.underlying t = some u ∧ ∀ v, u ≠ .interface v
theorem ps_mkIface {t : TypeId} {u : Value} {H1 : List HL} [ht : NoIfc X.P t] (hx : s.ev x = some (.ag 1 (nth [.v u]))) (hd : Nat.blt d X.nt = true) :
    PureStep X H1 ⟨some d, .makeInterface t x, ty, pos, aft, none⟩ s (s.put d (.v (.iface t (.agg #[u])))) :=
  ps_of hd fun _ a _ hs => by
    obtain ⟨vs, hv, hz, hg⟩ := hs.ev hx
    obtain ⟨z, hz1, hz2, hz3⟩ := hg 0 (by omega)
    have hz3' : z = u := hz3
    subst hz3'
    have hvs : vs = #[z] := by
      apply Array.ext_getElem?
      intro i
      cases i with
      | zero => simpa using hz1
      | succ i => simp [Array.getElem?_eq_none (show vs.size ≤ i + 1 by omega)]
    subst hvs
    refine ⟨.iface t (.agg #[z]), fun w' _ => ?_, rfl⟩
    obtain ⟨tu, h1, h2⟩ := ht.h
    simp only [execOp, Instr.makeInterface, hv, Sem.run_bind, run_underlying h1, Result.andThen_ok]
    cases tu <;> first | rfl | exact absurd rfl (h2 _)
theorem ps_nilCheckR {size len e f : Nat} {get : Nat → Nat → D} {H1 : List HL} (hx : s.ev x = some (.rp size len get e f)) (hd : Nat.blt d X.nt = true) : PureStep X H1 ⟨some d, .nilCheck x, ty, pos, aft, none⟩ s (s.put d (.rp size len get e f)) :=
  ps_of hd fun _ a _ hs => by
    have hv := hs.ev hx
    refine ⟨a.eval x, fun w' _ => ?_, hv⟩
    obtain ⟨g, q, h1, _⟩ := hv
    simp [execOp, h1]
theorem ps_addStr {xt yt : TypeId} {p q : ByteArray} {H1 : List HL} (hx : s.ev x = some (.v (.string p))) (hy : s.ev y = some (.v (.string q))) (hs : p.size + q.size ≤ 9223372036854775807) (hd : Nat.blt d X.nt = true) :
    PureStep X H1 ⟨some d, .binOp .add xt x y yt, ty, pos, aft, none⟩ s (s.put d (.v (.string (p ++ q)))) :=
  ps_of hd fun _ a _ hsa => ⟨.string (p ++ q), fun w' _ => by
    have e1 : a.eval x = .string p := hsa.ev hx
    have e2 : a.eval y = .string q := hsa.ev hy
    have e4 : (eqGuard .add xt x y (.string p) (.string q)).run X.P w' = .ok () w' := rfl
    have e5 : ¬ (((p.size + q.size : Nat) : Int) > IntKind.i64.max) := by
      have : IntKind.i64.max = 9223372036854775807 := by decide
      omega
    simp only [execOp, e1, e2, Sem.run_bind, e4, Result.andThen_ok, binOp, Op.stringOp, e5, if_false, Sem.run_pure], rfl⟩

/-- A row of the call's own becomes data while the rows that came in are still there. -/
theorem GoO.freezeS {P : Program} {nt : Nat} {w0 : World} {I0 : Nat → Prop} {H00 : List HL} {l : List Deferred} {tb : TB P w0 I0 H00} {z : HL} {rest r0 : List HL} {r r' : D} {j : Nat} (hj : look s.env j = some r) (hrem : Rem s.heap z rest) (hl : Lend [z] r r') (ht : Take rest H00 r0)
    (h : GoO ⟨P, nt, w0, fps H00, I0, l, tb⟩ fn R all os k ⟨(j, r') :: s.env, rest⟩) : GoO ⟨P, nt, w0, fps H00, I0, l, tb⟩ fn R all os k s :=
  ⟨fun I a w hs => by
    refine h.run _ a w (sat_freeze hj hrem hl (fun b hb hm => ?_) hs)
    obtain ⟨x1, hx1, hx1b⟩ := hb
    rw [List.mem_singleton.1 hx1] at hx1b
    obtain ⟨x2, hx2, hx2b⟩ := hm
    exact (List.pairwise_cons.1 (sep_perm hrem.perm hs.sep)).1 x2 (ht.perm.mem_iff.2 (List.mem_append_left _ hx2)) b hx1b hx2b⟩

/-- What holds behind a call. -/
theorem sat_behind (fz : Bool) {Hin rest L rest' H' : List HL} {I N : Nat → Prop} {a : Act} {w w' : World} {v : Value} {r : D} (hs : Sat X I s a w) (ht : Take s.heap Hin rest) (hL : Take rest L rest')
    (hr : Rd (Or' (fun b => I b ∨ fps L b) N) w' r v) (hok : HOk (Or' (fun b => I b ∨ fps L b) N) w' H') (hN : ∀ b, N b → w.heap.size ≤ b ∧ b < w'.heap.size) (hfp : ∀ b, fps H' b → fps Hin b ∨ w.heap.size ≤ b) (hsame : Same w w' (fps Hin))
    (hfz : cond fz (∀ b, fps L b → ¬ X.may b) ((∀ I w v, Rd I w r v → Rd No w r v) ∧ ∀ x, x ∈ H' → ∀ I w, x.ok I w → x.ok No w)) :
    ∃ I', (∀ b, I b → I' b) ∧ Sat X I' ⟨s.env, H' ++ cond fz rest' rest⟩ a w' ∧ Rd I' w' r v := by
  have hp := ht.perm
  have hpL := hL.perm
  have hrest : ∀ h, h ∈ rest → h ∈ s.heap := fun h hh => hp.mem_iff.2 (List.mem_append_right _ hh)
  have hin : ∀ h, h ∈ Hin → h ∈ s.heap := fun h hh => hp.mem_iff.2 (List.mem_append_left _ hh)
  have hLr : ∀ h, h ∈ L → h ∈ rest := fun h hh => hpL.mem_iff.2 (List.mem_append_left _ hh)
  have hRr : ∀ h, h ∈ rest' → h ∈ rest := fun h hh => hpL.mem_iff.2 (List.mem_append_right _ hh)
  obtain ⟨hs1, hs2, hs3⟩ := List.pairwise_append.1 (sep_perm hp hs.sep)
  have hI' : ∀ b, (I b ∨ fps rest b) → b < w.heap.size := fun b hb => by
    rcases hb with hb | ⟨z, hz, hzb⟩
    · exact (hs.imm b hb).1
    · exact (hs.own b ⟨z, hrest z hz, hzb⟩).2.2
  have hI : ∀ b, I b → w'.heap[b]? = w.heap[b]? := fun b hb => hsame.block b (hs.imm b hb).1 fun ⟨z, hz, hzb⟩ => (hs.own b ⟨z, hin z hz, hzb⟩).1 hb
  have hR : ∀ b, fps rest b → w'.heap[b]? = w.heap[b]? := fun b hb => hsame.block b (hI' b (.inr hb)) fun ⟨z, hz, hzb⟩ => by
    obtain ⟨z', hz', hzb'⟩ := hb
    exact hs3 z hz z' hz' b hzb hzb'
  cases fz with
  | false =>
    have hind := hfz
    have hNoI : Rd I w' r v := (hind.1 _ _ _ hr).mono (fun _ h => h.elim) (fun _ _ => rfl)
    refine ⟨I, fun _ h => h, ⟨hs.tsz, hs.dfr, fun j e hj => (hs.env j e hj).mono (fun _ h => h) hI, fun z hz => ?_, ?_, ?_, fun b hb => ⟨Nat.lt_of_lt_of_le (hs.imm b hb).1 hsame.size, (hs.imm b hb).2⟩, hs.i0,
      hs.same.step hsame fun i ⟨z, hz, hzb⟩ => (hs.own i ⟨z, hin z hz, hzb⟩).2.1.symm⟩, hNoI⟩
    · rcases List.mem_append.1 hz with hz | hz
      · exact (hind.2 z hz _ _ (hok.ok z hz)).mono (fun _ h => h.elim) (fun _ _ => rfl) (fun _ _ => rfl)
      · exact (hs.heap z (hrest z hz)).mono (fun _ h => h) hI fun b hb => hR b ⟨z, hz, hb⟩
    · refine List.pairwise_append.2 ⟨hok.sep, hs2, fun z hz z' hz' b hb hb' => ?_⟩
      rcases hfp b ⟨z, hz, hb⟩ with ⟨u, hu, hub⟩ | h1
      · exact hs3 u hu z' hz' b hub hb'
      · have := hI' b (.inr ⟨z', hz', hb'⟩)
        omega
    · rintro b ⟨z, hz, hzb⟩
      rcases List.mem_append.1 hz with hz | hz
      · have h1 := (hok.own b ⟨z, hz, hzb⟩).2
        rcases hfp b ⟨z, hz, hzb⟩ with ⟨u, hu, hub⟩ | h2
        · obtain ⟨o1, o2, _⟩ := hs.own b ⟨u, hin u hu, hub⟩
          exact ⟨o1, o2, h1⟩
        · refine ⟨fun hi => ?_, .inl (Nat.le_trans hs.same.size h2), h1⟩
          have := (hs.imm b hi).1
          omega
      · obtain ⟨o1, o2, o3⟩ := hs.own b ⟨z, hrest z hz, hzb⟩
        exact ⟨o1, o2, Nat.lt_of_lt_of_le o3 hsame.size⟩
  | true =>
    obtain ⟨hq1, hq2, hq3⟩ := List.pairwise_append.1 (sep_perm hpL hs2)
    have hmay : ∀ b, fps L b → ¬ X.may b := hfz
    refine ⟨Or' (Or' I (fps L)) N, fun _ h => .inl (.inl h), ⟨hs.tsz, hs.dfr, fun j e hj => (hs.env j e hj).mono (fun _ h => .inl (.inl h)) hI, fun z hz => ?_, ?_, ?_, ?_, fun b hb => .inl (.inl (hs.i0 b hb)),
      hs.same.step hsame fun i ⟨z, hz, hzb⟩ => (hs.own i ⟨z, hin z hz, hzb⟩).2.1.symm⟩, hr⟩
    · rcases List.mem_append.1 hz with hz | hz
      · exact hok.ok z hz
      · exact (hs.heap z (hrest z (hRr z hz))).mono (fun _ h => .inl (.inl h)) hI fun b hb => hR b ⟨z, hRr z hz, hb⟩
    · refine List.pairwise_append.2 ⟨hok.sep, hq2, fun z hz z' hz' b hb hb' => ?_⟩
      rcases hfp b ⟨z, hz, hb⟩ with ⟨u, hu, hub⟩ | h1
      · exact hs3 u hu z' (hRr z' hz') b hub hb'
      · have := hI' b (.inr ⟨z', hRr z' hz', hb'⟩)
        omega
    · rintro b ⟨z, hz, hzb⟩
      rcases List.mem_append.1 hz with hz | hz
      · have h1 := hok.own b ⟨z, hz, hzb⟩
        refine ⟨h1.1, ?_, h1.2⟩
        rcases hfp b ⟨z, hz, hzb⟩ with ⟨u, hu, hub⟩ | h2
        · exact (hs.own b ⟨u, hin u hu, hub⟩).2.1
        · exact .inl (Nat.le_trans hs.same.size h2)
      · obtain ⟨o1, o2, o3⟩ := hs.own b ⟨z, hrest z (hRr z hz), hzb⟩
        refine ⟨fun hh => ?_, o2, Nat.lt_of_lt_of_le o3 hsame.size⟩
        rcases hh with (hh | ⟨z', hz', hzb'⟩) | hh
        · exact o1 hh
        · exact hq3 z' hz' z hz b hzb' hzb
        · have := (hN b hh).1
          omega
    · rintro b ((hb | hb) | hb)
      · exact ⟨Nat.lt_of_lt_of_le (hs.imm b hb).1 hsame.size, (hs.imm b hb).2⟩
      · have h1 := hs.own b (let ⟨z, hz, hzb⟩ := hb; ⟨z, hrest z (hLr z hz), hzb⟩)
        exact ⟨Nat.lt_of_lt_of_le h1.2.2 hsame.size, .inr (h1.2.1.resolve_right (hmay b hb))⟩
      · exact ⟨(hN b hb).2, .inr (Nat.le_trans hs.same.size (hN b hb).1)⟩

/-- An operation whose other ends are Q's. -/
def EffQ (X : Cx) (Q : Exit → Act → World → Prop) (o : Oper) (s : St) (wr : List HL) (next : St → Prop) : Prop :=
  ∀ I a w, Sat X I s a w → o.wp X.P a w (fun a' w' => Same w w' (fps wr) ∧ ∃ s', next s' ∧ ∃ I', (∀ b, I b → I' b) ∧ Sat X I' s' a' w') Q

/-- A call that may throw. -/
theorem ef_callT (fz : Bool) {f : FuncId} [hf : FnT X.P f] {xs : List Operand} {ats : Array TypeId} {ds ds' : List D} {Hin rest L rest' : List HL} {post thr : D → List HL → Prop}
    (hx : evL s xs = some ds) (ht : Take s.heap Hin rest) (hL : Take rest L rest') (spec : DoesT X.P f ds' Hin post thr) (hl : LendL L ds ds') (hd : Nat.blt d X.nt = true)
    (hfz : cond fz (∀ b, fps L b → ¬ X.may b) (IndepP post ∧ IndepP thr)) (h2 : ∀ r H', thr r H' → GoT X fn R ⟨s.env, H' ++ cond fz rest' rest⟩ r) :
    EffQ X (Kont X fn R k) ⟨some d, .call { callee := .value (.func f), args := xs.toArray, argTypes := ats }, ty, pos, aft, gd⟩ s Hin (fun s2 => ∃ r H', post r H' ∧ s2 = ⟨(d, r) :: s.env, H' ++ cond fz rest' rest⟩) := fun I a w hs => by
  have hp := ht.perm
  have hpL := hL.perm
  have hrest : ∀ h, h ∈ rest → h ∈ s.heap := fun h hh => hp.mem_iff.2 (List.mem_append_right _ hh)
  have hin : ∀ h, h ∈ Hin → h ∈ s.heap := fun h hh => hp.mem_iff.2 (List.mem_append_left _ hh)
  have hLr : ∀ h, h ∈ L → h ∈ rest := fun h hh => hpL.mem_iff.2 (List.mem_append_left _ hh)
  have hfL : ∀ b, fps L b → fps rest b := fun b ⟨z, hz, hzb⟩ => ⟨z, hLr z hz, hzb⟩
  obtain ⟨hs1, hs2, hs3⟩ := List.pairwise_append.1 (sep_perm hp hs.sep)
  have hr : (execOp a.eval ⟨some d, .call { callee := .value (.func f), args := xs.toArray, argTypes := ats }, ty, pos, aft, gd⟩).run X.P w = .ok (.enter f (xs.map a.eval).toArray) w := by
    simp [execOp, resolve, Act.eval, Deferred.ofValue, invoke, hf.run]
  have hargs := RdL.lend (H := L) (fun h hh => hs.heap h (hrest h (hLr h hh))) hl (hs.evL hx)
  have hIL : ∀ b, (I b ∨ fps L b) → b < w.heap.size := fun b hb => by
    rcases hb with hb | hb
    · exact (hs.imm b hb).1
    · obtain ⟨z, hz, hzb⟩ := hfL b hb
      exact (hs.own b ⟨z, hrest z hz, hzb⟩).2.2
  unfold Oper.wp
  rw [hr]
  refine (spec (fun b => I b ∨ fps L b) w _ hargs ⟨fun h hh => (hs.heap h (hin h hh)).mono (fun _ h => .inl h) (fun _ _ => rfl) (fun _ _ => rfl), hs1, fun b ⟨z, hz, hzb⟩ => ?_⟩ hIL (hs.tab.mono (fun _ h => .inl h) (fun _ _ => rfl))).mono ?_
  · obtain ⟨o1, o2, o3⟩ := hs.own b ⟨z, hin z hz, hzb⟩
    refine ⟨fun hh => ?_, o3⟩
    rcases hh with hh | hh
    · exact o1 hh
    · obtain ⟨z', hz', hzb'⟩ := hfL b hh
      exact hs3 z hz z' hz' b hzb hzb'
  · rintro e w' (⟨v, r, H', N, he, hpost, hr, hok, hN, hfp, hsame⟩ | ⟨v, r, H', N, he, hpost, hr, hok, hN, hfp, hsame⟩)
    · subst he
      obtain ⟨I', g1, g2, g3⟩ := sat_behind fz hs ht hL hr hok hN hfp hsame (by
        cases fz with
        | false => exact hfz.1 r H' hpost
        | true => exact hfz)
      exact ⟨hsame, _, ⟨r, H', hpost, rfl⟩, I', g1, Sat.put g2 (blt_lt hd) g3⟩
    · subst he
      obtain ⟨I', g1, g2, g3⟩ := sat_behind fz hs ht hL hr hok hN hfp hsame (by
        cases fz with
        | false => exact hfz.2 r H' hpost
        | true => exact hfz)
      exact Kont_throw ((h2 r H' hpost).run I' a w' v g2 g3)

theorem GoO.callT (fz : Bool) {f : FuncId} [hf : FnT X.P f] {xs : List Operand} {ats : Array TypeId} {ds ds' : List D} {Hin rest L rest' : List HL} {post thr : D → List HL → Prop}
    (hx : evL s xs = some ds) (ht : Take s.heap Hin rest) (hL : Take rest L rest') (spec : DoesT X.P f ds' Hin post thr) (hl : LendL L ds ds') (hd : Nat.blt d X.nt = true)
    (hfz : cond fz (∀ b, fps L b → ¬ X.may b) (IndepP post ∧ IndepP thr)) (h2 : ∀ r H', thr r H' → GoT X fn R ⟨s.env, H' ++ cond fz rest' rest⟩ r)
    (h : ∀ r H', post r H' → GoO X fn R all os k ⟨(d, r) :: s.env, H' ++ cond fz rest' rest⟩) :
    GoO X fn R all (⟨some d, .call { callee := .value (.func f), args := xs.toArray, argTypes := ats }, ty, pos, aft, none⟩ :: os) k s :=
  ⟨fun I a w hs => wpList_plain rfl fun K hK => Oper.wp_mono (fun a' w' ⟨_, s2, ⟨r, H', hp, e⟩, I', _, h4⟩ => hK _ _ (by subst e; exact (h r H' hp).run I' a' w' h4)) (ef_callT fz hx ht hL spec hl hd hfz h2 I a w hs)⟩

theorem step_oneT {o : Oper} {wr r : List HL} {next : St → Prop} (hi : all[i]? = some o) (hg : Lets X all s o.guard) (he : EffQ X (Kont X fn R k) o s wr next) (ht : Take s.heap (wr ++ H0) r) (h : ∀ s', next s' → GoP X fn R all H0 p k s')
    {I : Nat → Prop} {a : Act} {w wR : World} {f : Nat} {listed : Array Bool} (hs : Sat X I s a w) (hS : SH I H0 wR w) (hH : ∀ b, fps H0 b → b < w.heap.size) (hns : Region.noSelect all = true)
    (hp : planOk all p f listed = true) : wpOp X.P all (Kont X fn R k) i (fun a' w' => SH I H0 wR w' ∧ wpAnyH X.P .any all (Kont X fn R k) (SH I H0 wR) f listed a' w') a w := by
  unfold wpOp
  simp only [hi, hg.wanted hs, if_true]
  refine .inl (Oper.wp_mono ?_ (he I a w hs))
  rintro a' w' ⟨hsame, s', hn, I', hII, hs'⟩
  have hp2 := ht.perm
  have hsep := (List.pairwise_append.1 (List.pairwise_append.1 (sep_perm hp2 hs.sep)).1).2.2
  have hwr : ∀ b, fps wr b → ¬ I b ∧ ¬ fps H0 b := fun b ⟨z, hz, hzb⟩ => ⟨(hs.own b ⟨z, hp2.mem_iff.2 (List.mem_append_left _ (List.mem_append_left _ hz)), hzb⟩).1, fun ⟨z', hz', hzb'⟩ => hsep z hz z' hz' b hzb hzb'⟩
  have hS' : SH I H0 wR w' := fun b hb => by
    refine (hsame.block b ?_ fun hh => ?_).trans (hS b hb)
    · rcases hb with hb | hb
      · exact (hs.imm b hb).1
      · exact hH b hb
    · rcases hb with hb | hb
      · exact (hwr b hh).1 hb
      · exact (hwr b hh).2 hb
  refine ⟨hS', wpAnyH_weak (S' := SH I' H0 w') (fun v hv b hb => ?_) f listed a' w' ((h s' hn).run I' a' w' w' f listed hs' (fun _ _ => rfl) (fun b hb => Nat.lt_of_lt_of_le (hH b hb) hsame.size) hns hp)⟩
  exact (hv b (hb.imp (hII b) id)).trans (hS' b hb)
/-- .. in a region that draws, everything being read -/
theorem GoQ.lastT {o : Oper} {wr r : List HL} {post : D → List HL → Prop} {F : D → List HL → St} (hi : all[j0]? = some o) (hg : Lets X all s o.guard) (he : EffQ X (Kont X fn R k) o s wr (fun s2 => ∃ r H', post r H' ∧ s2 = F r H')) (ht : Take s.heap wr r)
    (h : ∀ r H', post r H' → GoP X fn R all [] p k (F r H')) : GoQ X fn R all H0 j0 (.one j0 p) k s :=
  ⟨fun I a w wR fuel listed hs hS hH hns hp hl _ => by
    cases fuel with
    | zero => simp [planOk] at hp
    | succ f =>
      simp only [planOk, Bool.and_eq_true, decide_eq_true_eq] at hp
      refine ⟨fun h0 => absurd (hp.1 ▸ h0) (by simp), fun i' hi' => ?_⟩
      have : i' = j0 := by rw [hp.1] at hi'; simpa using hi'
      subst this
      have h1 := step_oneT (H0 := []) hi hg he (by simpa using ht) (fun _ ⟨r, H', hp, e⟩ => e ▸ h r H' hp) hs hS.nil (fun b ⟨z, hz, _⟩ => absurd hz (by simp)) hns hp.2
      refine wpOp_mono (fun a' w' h' => ?_) h1
      have hl' : (listed.setIfInBounds i' true).getD i' true = true := by
        by_cases c : i' < listed.size
        · simp [c]
        · simp [c]
      exact ⟨⟨fun z => (by rw [hl'] at z; cases z), h'.1⟩, wpAnyL_of_H f _ a' w' hl' h'.2⟩⟩
end
end Go.Proofs.Ytgkcmjmofcekmaa.Sx
