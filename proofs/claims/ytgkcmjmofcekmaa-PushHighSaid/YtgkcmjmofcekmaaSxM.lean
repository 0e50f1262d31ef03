/- The walk's rules for a closure that calls itself by the variable in which it lies, and for rows of rows that are all the call's own. Plain laws over any program. -/
import Derived.Test.YtgkcmjmofcekmaaSxL
namespace Go.Proofs.Ytgkcmjmofcekmaa.Sx
open Go
set_option linter.unusedVariables false
set_option linter.unusedSimpArgs false
theorem eldI : (El.d : Int) = 0 := rfl
theorem Eff.pureG {X : Cx} {s s' : St} {H1 : List HL} {d : Option Tmp} {op : Op} {ty : TypeId} {pos : String} {aft : Array Edge} {gd : Option (Nat × Bool)} (hp : PureStep X H1 ⟨d, op, ty, pos, aft, none⟩ s s') : Eff X ⟨d, op, ty, pos, aft, gd⟩ s [] (fun s2 => s2 = s') := fun I a w hs Q => by
  obtain ⟨v, h1, h2⟩ := hp I a w hs
  exact wp_val (h1 w fun _ _ => rfl) ⟨Same.refl _ _, s', rfl, h2⟩
/-! ### a closure that names the box in which it lies -/
section
variable {X : Cx} {fn : Func} {R : Ending → World → Prop} {k : List It} {s : St} {all : Array Oper} {os : List Oper} {d : Tmp} {ty : TypeId} {pos : String} {aft : Array Edge} {gd : Option (Nat × Bool)} {x y : Operand} {q : D} {H0 : List HL}
theorem ps_loadSelf {f : FuncId} {n j : Nat} {get : Nat → D} {t : TypeId} {m : Nat} [ht : TI X.P t m false] (hx : s.ev x = some (.selfp f n get j)) (hd : Nat.blt d X.nt = true) :
    PureStep X H0 ⟨some d, .load t x, ty, pos, aft, none⟩ s (s.put d (.self f n get j)) :=
  ps_of hd fun _ a w hs => by
    obtain ⟨vs, g, o, hv, hg, hc, h1, h2, h3⟩ := hs.ev hx
    exact ⟨.func (.func f) #[] vs, fun w' hw => by
      have hcell : w'.cell? ⟨g, o, none⟩ = some (.func (.func f) #[] vs) := (World.cell?_of_block (w := w) (w' := w') (hw g (.inl hg))).trans hc
      simp [execOp, Instr.loadAt, Instr.sureAddr, hv, loadVar, ht.agg, hcell], vs, g, o, rfl, h1, h2, by rw [h3, hv], hg, hc⟩
theorem nth_setL {j : Nat} {d : D} : ∀ {l : List D} {i : Nat}, i < l.length → nth (l.set j d) i = if i = j then d else nth l i := fun {l i} h => by
  rw [nth_lt (by simpa using h), nth_lt h, List.getD_eq_getElem?_getD, List.getD_eq_getElem?_getD, List.getElem?_set]
  by_cases e : j = i
  · subst e; simp [h]
  · rw [if_neg e, if_neg (fun z => e z.symm)]
/-- a call of such a closure -/
theorem callv_runS {f : FuncId} [hf : FnT X.P f] {xs : List Operand} {ats : Array TypeId} {c : Operand} {n j : Nat} {ds cs cs' : List D} (hc : s.ev c = some (.self f n (nth cs) j)) (hn : n = cs.length) (hcs : cs.set j (.selfp f n (nth cs) j) = cs') (hx : evL s xs = some ds) :
    ∀ I a w, Sat X I s a w → ∃ vs : List Value, (execOp a.eval ⟨some d, .call { callee := .value c, args := xs.toArray, argTypes := ats }, ty, pos, aft, gd⟩).run X.P w = .ok (.enter f vs.toArray) w ∧ RdL I w (ds ++ cs') vs := fun I a w hs => by
  subst hn hcs
  obtain ⟨us, g, o, e, h1, h2, h3, h4, h5⟩ := hs.ev hc
  refine ⟨xs.map a.eval ++ us.toList, ?_, RdL.append (hs.evL hx) (RdL.of_nth (by simpa using h1) fun i hi => ?_)⟩
  · simp [execOp, resolve, e, Deferred.ofValue, invoke, hf.run]
  · have hi' : i < cs.length := by simpa using hi
    rw [nth_setL hi']
    by_cases z : i = j
    · subst z
      rw [if_pos rfl]
      exact ⟨_, by simpa using h3, us, g, o, rfl, h4, by rw [h5, e], h1, h2, h3⟩
    · rw [if_neg z]
      obtain ⟨u, h6, h7⟩ := h2 i hi' z
      exact ⟨u, by simpa using h6, h7⟩
theorem ef_callvS {f : FuncId} [hf : FnT X.P f] {xs : List Operand} {ats : Array TypeId} {c : Operand} {n j : Nat} {ds cs cs' ds' : List D} {Hin rest L rest' : List HL} {post : D → List HL → Prop}
    (hc : s.ev c = some (.self f n (nth cs) j)) (hn : n = cs.length) (hcs : cs.set j (.selfp f n (nth cs) j) = cs') (hx : evL s xs = some ds) (ht : Take s.heap Hin rest) (hL : Take rest L rest') (spec : Does X.P f ds' Hin post) (hl : LendL L (ds ++ cs') ds') (hd : Nat.blt d X.nt = true) (hi : IndepP post) :
    Eff X ⟨some d, .call { callee := .value c, args := xs.toArray, argTypes := ats }, ty, pos, aft, gd⟩ s Hin (fun s2 => ∃ r H', post r H' ∧ s2 = ⟨(d, r) :: s.env, H' ++ rest⟩) := fun I a w hs Q =>
  Oper.wp_mono (fun a' w' ⟨h1, s2, h2, I', h3, h4⟩ => ⟨h1, s2, h2, h3.1 rfl ▸ h4⟩) (ef_callH false (callv_runS hc hn hcs hx) ht hL spec hl hd hi I a w hs Q)
end
theorem Lend.rp {H : List HL} {size len e f : Nat} {g g' : Nat → Nat → D} (h : ∀ e, e < len → AllLt size fun f => Lend H (g e f) (g' e f)) : Lend H (.rp size len g e f) (.rp size len g' e f) := by
  rintro I w v hok ⟨b, o, rfl, hg, hc⟩
  exact ⟨b, o, rfl, .inl hg, fun e' he f' hf => let ⟨u, hu, ho, hr⟩ := hc e' he f' hf; ⟨u, hu, ho, (h e' he).all f' hf I w u hok hr⟩⟩
theorem Lend.rp1 {H : List HL} {size e f : Nat} {g g' : Nat → Nat → D} (h : AllLt size fun f => Lend H (g 0 f) (g' 0 f)) : Lend H (.rp size 1 g e f) (.rp size 1 g' e f) := Lend.rp fun e' he => by
  obtain rfl : e' = 0 := by omega
  exact h
def AllBut (j : Nat) : Nat → (Nat → Prop) → Prop
  | 0, _ => True
  | n + 1, P => AllBut j n P ∧ cond (Nat.beq n j) True (P n)
theorem AllBut.all {j : Nat} {P : Nat → Prop} : ∀ {n : Nat}, AllBut j n P → ∀ i, i < n → i ≠ j → P i
  | 0, _, i, h, _ => absurd h (by omega)
  | n + 1, h, i, hi, hne => by
    by_cases h1 : i < n
    · exact AllBut.all h.1 i h1 hne
    · have : i = n := by omega
      subst this
      have hb : Nat.beq i j = false := by rw [Bool.eq_false_iff]; exact fun e => hne (Nat.eq_of_beq_eq_true e)
      have := h.2
      rw [hb] at this
      exact this
theorem DLe.rp1 {size e f : Nat} {g g' : Nat → Nat → D} (h : AllLt size fun f => DLe (g 0 f) (g' 0 f)) : DLe (.rp size 1 g e f) (.rp size 1 g' e f) := by
  rintro I w v ⟨b, o, rfl, hg, hc⟩
  refine ⟨b, o, rfl, hg, fun e' he f' hf => ?_⟩
  obtain rfl : e' = 0 := by omega
  obtain ⟨u, hu, ho, hr⟩ := hc 0 he f' hf
  exact ⟨u, hu, ho, h.all f' hf I w u hr⟩
theorem DLe.selfp {f : FuncId} {n j : Nat} {g g' : Nat → D} (h : AllBut j n fun i => DLe (g i) (g' i)) : DLe (.selfp f n g j) (.selfp f n g' j) := by
  rintro I w v ⟨vs, b, o, rfl, hg, hc, h1, h2, h3⟩
  exact ⟨vs, b, o, rfl, hg, hc, h1, fun i hi hne => let ⟨u, h4, h5⟩ := h2 i hi hne; ⟨u, h4, h.all i hi hne I w u h5⟩, h3⟩
theorem DLe.self {f : FuncId} {n j : Nat} {g g' : Nat → D} (h : AllBut j n fun i => DLe (g i) (g' i)) : DLe (.self f n g j) (.self f n g' j) := by
  rintro I w v ⟨vs, b, o, rfl, h1, h2, h3, hg, hc⟩
  exact ⟨vs, b, o, rfl, h1, fun i hi hne => let ⟨u, h4, h5⟩ := h2 i hi hne; ⟨u, h4, h.all i hi hne I w u h5⟩, h3, hg, hc⟩
theorem Lend.selfp {H : List HL} {f : FuncId} {n j : Nat} {g g' : Nat → D} (h : AllBut j n fun i => Lend H (g i) (g' i)) : Lend H (.selfp f n g j) (.selfp f n g' j) := by
  rintro I w v hok ⟨vs, b, o, rfl, hg, hc, h1, h2, h3⟩
  exact ⟨vs, b, o, rfl, .inl hg, hc, h1, fun i hi hne => let ⟨u, h4, h5⟩ := h2 i hi hne; ⟨u, h4, h.all i hi hne I w u hok h5⟩, h3⟩
/-- the box in which the closure lies is lent -/
theorem Lend.selfbox {H H' : List HL} {β : BK} {t : TypeId} {c : C} {f : FuncId} {n j : Nat} {g g' : Nat → D} (hm : At H (.one β t 1 c) (.one β t 1 c) H') (hl : Nat.blt 0 c.len = true) (hc : c.get 0 0 = .fn f n g) (hj : g j = .ptr β 1 0 0) (hjn : Nat.blt j n = true)
    (h : AllBut j n fun i => Lend H (g i) (g' i)) : Lend H (.ptr β 1 0 0) (.selfp f n g' j) := by
  rintro I w v hok rfl
  have hb : BOk I w β t 1 c := hok _ hm.mem
  have hbs : 0 < β.s := Nat.lt_of_lt_of_le (blt_lt hl) hb.1
  obtain ⟨u, hu, ho, hr⟩ := hb.cell (blt_lt hl) (f := 0) (by omega)
  rw [hc] at hr
  obtain ⟨vs, rfl, h1, h2⟩ := hr
  obtain ⟨v, hv, hvr⟩ := h2 j (blt_lt hjn)
  rw [hj] at hvr
  have hvr' : v = .pointer (some ⟨β.b, β.o + (0 * 1 + 0), none⟩) := hvr
  subst hvr'
  exact ⟨vs, β.b, β.o + (0 * 1 + 0), rfl, .inr ⟨_, hm.mem, hbs, rfl⟩, hu, h1, fun i hi hne => let ⟨u, h4, h5⟩ := h2 i hi; ⟨u, h4, h.all i hi hne I w u hok h5⟩, hv⟩
/-! ### rows of rows -/
/-- the outer row: each entry is a row of the call's own -/
def gridC {α : Type} [El α] (B : Nat → BK) (xs : List (List α)) : C := ⟨xs.length, fun e _ => .own (B e) (El.size α) 0 (xs.getD e []).length⟩
/-- the inner rows -/
def gridH {α : Type} [El α] (te : TypeId) (B : Nat → BK) (xs : List (List α)) : HL := .many xs.length B te (El.size α) (fun e => row (xs.getD e []))
section
variable {X : Cx} {s : St} {d : Tmp} {ty : TypeId} {pos : String} {aft : Array Edge} {gd : Option (Nat × Bool)} {x y : Operand} {q : D} {H0 : List HL}
theorem ps_loadM {B : Nat → BK} {size e f i m : Nat} {t te : TypeId} {n : Nat} {c : Nat → C} {H H1 : List HL} [ht : TI X.P t n false] (hx : s.ev x = some (.ptr (B i) size e f)) (hm : At s.heap (.many m B te size c) (.many m B te size c) H) (hm0 : At H0 (.many m B te size c) (.many m B te size c) H1)
    (hi : i < m) (he : e < (c i).len) (hf : Nat.blt f size = true) (hd : Nat.blt d X.nt = true) : PureStep X H0 ⟨some d, .load t x, ty, pos, aft, none⟩ s (s.put d ((c i).get e f)) :=
  ps_of hd fun _ a w hs => by
    have hv : a.eval x = .pointer (some ⟨(B i).b, (B i).o + (e * size + f), none⟩) := hs.ev hx
    have hk : (HL.many m B te size c).ok _ w := hs.heap _ hm.mem
    have hb := hk.1 i hi
    obtain ⟨u, hu, _, hr⟩ := hb.cell he (blt_lt hf)
    have hpos : 0 < (B i).s := by have := hb.1; omega
    exact ⟨u, fun w' hw => by
      have hcell : w'.cell? ⟨(B i).b, (B i).o + (e * size + f), none⟩ = some u := (World.cell?_of_block (w := w) (w' := w') (hw (B i).b (.inr ⟨_, hm0.mem, i, hi, hpos, rfl⟩))).trans hu
      simp [execOp, Instr.loadAt, Instr.sureAddr, hv, loadVar, ht.agg, hcell], hr⟩
theorem ps_loadG {α : Type} [El α] {B : Nat → BK} {xs : List (List α)} {e f i size : Nat} {t te : TypeId} {n : Nat} {H H1 : List HL} [ht : TI X.P t n false] (hx : s.ev x = some (.ptr (B i) size e f)) (hsz : El.size α = size) (hm : At s.heap (gridH te B xs) (gridH te B xs) H) (hm0 : At H0 (gridH te B xs) (gridH te B xs) H1)
    (hi : i < xs.length) (he : e < (xs.getD i []).length) (hf : Nat.blt f size = true) (hd : Nat.blt d X.nt = true) : PureStep X H0 ⟨some d, .load t x, ty, pos, aft, none⟩ s (s.put d (El.enc ((xs.getD i []).getD e El.d) f)) := by
  subst hsz
  exact ps_loadM (c := fun e => row (xs.getD e [])) hx hm hm0 hi he hf hd
theorem ef_storeG {α : Type} [El α] {B : Nat → BK} {xs : List (List α)} {v : α} {i e f size : Nat} {t te : TypeId} {H : List HL} [ht : TI X.P t 1 false] (hx : s.ev x = some (.ptr (B i) size e f)) (hsz : El.size α = size) (hy : s.ev y = some q) (hq : q.one = true)
    (hm : At s.heap (gridH te B xs) (gridH te B (xs.set i ((xs.getD i []).set e v))) H) (hu : Upd1 size (row (xs.getD i [])) e f q (row ((xs.getD i []).set e v))) (hi : i < xs.length) (he : e < (xs.getD i []).length) (hf : Nat.blt f size = true) :
    Eff X ⟨none, .store t x y, ty, pos, aft, gd⟩ s [gridH te B xs] (fun s2 => s2 = ⟨s.env, H⟩) := fun I a w hs Q => by
  subst hsz
  have hv : a.eval x = .pointer (some ⟨(B i).b, (B i).o + (e * El.size α + f), none⟩) := hs.ev hx
  have hr := hs.ev hy
  have ho := D.one_ok hq hr
  have hk : (gridH te B xs).ok I w := hs.heap _ hm.mem
  have hb : BOk I w (B i) te (El.size α) (row (xs.getD i [])) := hk.1 i hi
  have hpos : 0 < (B i).s := by have h1 := hb.1; have h2 : e < (row (xs.getD i [])).len := he; omega
  have hown := hs.own (B i).b ⟨_, hm.mem, i, hi, hpos, rfl⟩
  obtain ⟨cs, hg, hfit, hb'⟩ := hb.store hu.toN he (blt_lt hf) (vs := [a.eval y]) rfl (fun j hj => ⟨a.eval y, by simp [show j = 0 by omega], ho, hr⟩) hown.1
  have hrun := run_storeVar (P := X.P) (w := w) (t := t) (v := a.eval y) (by rw [cells_one ho]; rfl) hg hfit (by rw [cells_one ho]; simpa using ho)
  rw [cells_one ho] at hrun
  have hsame0 := Same.setRow w (B i).b (splice cs ((B i).o + (e * El.size α + f)) [a.eval y])
  have hsame : Same w (w.setRow (B i).b (splice cs ((B i).o + (e * El.size α + f)) [a.eval y])) (gridH te B xs).fp := hsame0.mono fun b hb => ⟨i, hi, hpos, hb⟩
  refine wp_skip0 (w' := w.setRow (B i).b (splice cs ((B i).o + (e * El.size α + f)) [a.eval y])) ?_ ⟨hsame.mono fun b hb => fps_one hb, _, rfl, ?_⟩
  · simp only [execOp, Instr.storeAt, Instr.sureAddr, hv, Sem.run_bind, Sem.run_pure, Result.andThen_ok, hrun]
  · refine hs.turn hm hsame ⟨fun j hj => ?_, fun j j' hj hj' => ?_⟩ fun b hb => ?_
    · have hj' : j < xs.length := by simpa using hj
      show BOk I _ (B j) te (El.size α) (row ((xs.set i ((xs.getD i []).set e v)).getD j []))
      rw [getD_set _ _ _ _ _ hj']
      by_cases z : j = i
      · subst z; rw [if_pos rfl]; exact hb'
      · rw [if_neg z]
        refine BOk.mono (hk.1 j hj') (fun _ h => h) (fun b hb => hsame0.block b (hs.imm b hb).1 fun e => hown.1 (e ▸ hb)) fun hp => hsame0.block _ (hs.own _ ⟨_, hm.mem, j, hj', hp, rfl⟩).2.2 fun e => z (hk.2 j i hj' hi hp hpos e)
    · exact hk.2 j j' (by simpa using hj) (by simpa using hj')
    · obtain ⟨j, hj, hp, e⟩ := hb
      have hj' : j < xs.length := by simpa using hj
      have h1 := hs.own b ⟨_, hm.mem, j, hj', hp, e⟩
      exact ⟨.inl ⟨j, hj', hp, e⟩, by simpa using h1.2.2⟩
end
/-- an entry of the outer row is another row -/
theorem upd_grid {α : Type} [El α] {B : Nat → BK} {xs : List (List α)} {i size len : Nat} {β : BK} {ys : List α} (hsz : size = El.size α) (hl : len = ys.length) : Upd1 1 (gridC B xs) i 0 (.own β size 0 len) (gridC (updF B i β) (xs.set i ys)) :=
  ⟨by simp [gridC], fun e f he hf => by
    subst hsz hl
    have hf0 : f = 0 := by omega
    subst hf0
    simp only [gridC] at he ⊢
    rw [getD_set _ _ _ _ _ he]
    unfold updF
    by_cases h : e = i
    · rw [if_pos h, if_pos h, if_pos ⟨h, trivial⟩]
    · rw [if_neg h, if_neg h, if_neg (fun z => h z.1)]⟩
theorem upd_gridE {α : Type} [El α] {B : Nat → BK} {xs : List (List α)} {i : Nat} {d : D} (hd : d = .own ⟨0, 0, 0⟩ (El.size α) 0 0) : Upd1 1 (gridC B xs) i 0 d (gridC (updF B i ⟨0, 0, 0⟩) (xs.set i [])) := by subst hd; exact upd_grid rfl rfl
/-- two items become one -/
theorem Le.two {s : St} {x y z : HL} {r1 r2 : List HL} (h1 : Rem s.heap x r1) (h2 : Rem r1 y r2) (hok : ∀ I w, x.ok I w → y.ok I w → (∀ b, x.fp b → ¬ y.fp b) → z.ok I w) (hfp : ∀ b, z.fp b → x.fp b ∨ y.fp b) : Le s ⟨s.env, z :: r2⟩ := fun X I a w hs => by
  have p1 := h1.perm
  have p2 := h2.perm
  obtain ⟨a1, a2⟩ := List.pairwise_cons.1 (sep_perm p1 hs.sep)
  obtain ⟨b1, b2⟩ := List.pairwise_cons.1 (sep_perm p2 a2)
  have hxm : x ∈ s.heap := p1.mem_iff.2 (List.mem_cons_self ..)
  have hr1 : ∀ u, u ∈ r1 → u ∈ s.heap := fun u hu => p1.mem_iff.2 (List.mem_cons_of_mem _ hu)
  have hym : y ∈ r1 := p2.mem_iff.2 (List.mem_cons_self ..)
  have hr2 : ∀ u, u ∈ r2 → u ∈ r1 := fun u hu => p2.mem_iff.2 (List.mem_cons_of_mem _ hu)
  refine ⟨hs.tsz, hs.dfr, hs.env, fun u hu => ?_, List.pairwise_cons.2 ⟨fun u hu b hb hub => ?_, b2⟩, fun b ⟨u, hu, hub⟩ => ?_, hs.imm, hs.i0, hs.same⟩
  · rcases List.mem_cons.1 hu with rfl | hu
    · exact hok I w (hs.heap x hxm) (hs.heap y (hr1 y hym)) (a1 y hym)
    · exact hs.heap u (hr1 u (hr2 u hu))
  · rcases hfp b hb with h | h
    · exact a1 u (hr2 u hu) b h hub
    · exact b1 u hu b h hub
  · rcases List.mem_cons.1 hu with rfl | hu
    · rcases hfp b hub with h | h
      · exact hs.own b ⟨x, hxm, h⟩
      · exact hs.own b ⟨y, hr1 y hym, h⟩
    · exact hs.own b ⟨u, hr1 u (hr2 u hu), hub⟩
/-- one item becomes two -/
theorem Le.split2 {s : St} {x y z : HL} {r1 : List HL} (h1 : Rem s.heap x r1) (hok : ∀ I w, x.ok I w → y.ok I w ∧ z.ok I w ∧ ∀ b, y.fp b → ¬ z.fp b) (hy : ∀ b, y.fp b → x.fp b) (hz : ∀ b, z.fp b → x.fp b) : Le s ⟨s.env, y :: z :: r1⟩ := fun X I a w hs => by
  have p1 := h1.perm
  obtain ⟨a1, a2⟩ := List.pairwise_cons.1 (sep_perm p1 hs.sep)
  have hxm : x ∈ s.heap := p1.mem_iff.2 (List.mem_cons_self ..)
  have hr1 : ∀ u, u ∈ r1 → u ∈ s.heap := fun u hu => p1.mem_iff.2 (List.mem_cons_of_mem _ hu)
  obtain ⟨k1, k2, k3⟩ := hok I w (hs.heap x hxm)
  refine ⟨hs.tsz, hs.dfr, hs.env, fun u hu => ?_, List.pairwise_cons.2 ⟨fun u hu b hb hub => ?_, List.pairwise_cons.2 ⟨fun u hu b hb hub => a1 u hu b (hz b hb) hub, a2⟩⟩, fun b ⟨u, hu, hub⟩ => ?_, hs.imm, hs.i0, hs.same⟩
  · rcases List.mem_cons.1 hu with rfl | hu
    · exact k1
    · rcases List.mem_cons.1 hu with rfl | hu
      · exact k2
      · exact hs.heap u (hr1 u hu)
  · rcases List.mem_cons.1 hu with rfl | hu
    · exact k3 b hb hub
    · exact a1 u hu b (hy b hb) hub
  · rcases List.mem_cons.1 hu with rfl | hu
    · exact hs.own b ⟨x, hxm, hy b hub⟩
    · rcases List.mem_cons.1 hu with rfl | hu
      · exact hs.own b ⟨x, hxm, hz b hub⟩
      · exact hs.own b ⟨u, hr1 u hu, hub⟩
/-- an item without a place -/
theorem Le.nofp {s : St} {x : HL} (hok : ∀ I w, x.ok I w) (hf : ∀ b, ¬ x.fp b) : Le s ⟨s.env, x :: s.heap⟩ := fun X I a w hs =>
  ⟨hs.tsz, hs.dfr, hs.env, fun z hz => by
      rcases List.mem_cons.1 hz with rfl | hz
      · exact hok I w
      · exact hs.heap z hz,
    List.pairwise_cons.2 ⟨fun z hz b hb => absurd hb (hf b), hs.sep⟩,
    fun b ⟨z, hz, hzb⟩ => by
      rcases List.mem_cons.1 hz with rfl | hz
      · exact absurd hzb (hf b)
      · exact hs.own b ⟨z, hz, hzb⟩, hs.imm, hs.i0, hs.same⟩
section
variable {α : Type} [El α] {s : St} {te : TypeId} {B B1 : Nat → BK} {xs xs1 : List (List α)} {ys : List α} {i n : Nat} {β : BK} {r1 r2 : List HL}
/-- rows of nothing -/
theorem Le.grid0 (te : TypeId) (α : Type) [El α] (n : Nat) {s : St} : Le s ⟨s.env, gridH (α := α) te (fun _ => ⟨0, 0, 0⟩) (List.replicate n []) :: s.heap⟩ :=
  Le.nofp (fun I w => ⟨fun i hi => ⟨by
    have hi' : i < n := by simpa [gridH] using hi
    show ((List.replicate n ([] : List α)).getD i []).length ≤ 0
    simp [List.getD_eq_getElem?_getD, hi'], fun h => absurd h (by simp)⟩, fun i j _ _ h => absurd h (by simp)⟩) fun b ⟨i, hi, h, _⟩ => absurd h (by simp)
theorem HLe.grid0 {β : BK} {t : TypeId} {d : D} (hd : DLe d (.own ⟨0, 0, 0⟩ (El.size α) 0 0)) : HLe (.one β t 1 ⟨n, fun _ _ => d⟩) (.one β t 1 (gridC (α := α) (fun _ => ⟨0, 0, 0⟩) (List.replicate n []))) :=
  HLe.c (by simp [gridC]) fun e he f hf => by
    have he' : e < n := by simpa [gridC] using he
    show DLe d (.own ⟨0, 0, 0⟩ (El.size α) 0 ((List.replicate n ([] : List α)).getD e []).length)
    simpa [List.getD_eq_getElem?_getD, he'] using hd
/-- a row comes to the others, at a place whose row nobody needs -/
theorem Le.absorb (h1 : Rem s.heap (.one β te (El.size α) (row ys)) r1) (h2 : Rem r1 (gridH te B1 xs1) r2) (hl : xs1.length = xs.length) (hB : ∀ j, j ≠ i → B1 j = B j) (hx : ∀ j, j ≠ i → xs1.getD j [] = xs.getD j []) :
    Le s ⟨s.env, gridH te (updF B i β) (xs.set i ys) :: r2⟩ := Le.two h1 h2 (fun I w k1 k2 hd => ⟨fun j hj => by
    have hj' : j < xs.length := by simpa using hj
    show BOk I w (updF B i β j) te (El.size α) (row ((xs.set i ys).getD j []))
    rw [getD_set _ _ _ _ _ hj']
    unfold updF
    by_cases z : j = i
    · rw [if_pos z, if_pos z]; exact k1
    · rw [if_neg z, if_neg z, ← hB j z, ← hx j z]; exact k2.1 j (by rw [hl]; exact hj'), fun j j' hj hj' p1 p2 e => by
    have hj1 : j < xs1.length := by rw [hl]; simpa using hj
    have hj2 : j' < xs1.length := by rw [hl]; simpa using hj'
    unfold updF at p1 p2 e
    by_cases z : j = i
    · by_cases z' : j' = i
      · rw [z, z']
      · rw [if_pos z] at p1 e
        rw [if_neg z'] at p2 e
        rw [← hB j' z'] at p2 e
        exact absurd ⟨j', hj2, p2, e⟩ (hd β.b ⟨p1, rfl⟩)
    · by_cases z' : j' = i
      · rw [if_neg z] at p1 e
        rw [if_pos z'] at p2 e
        rw [← hB j z] at p1 e
        exact absurd ⟨j, hj1, p1, e.symm⟩ (hd β.b ⟨p2, rfl⟩)
      · rw [if_neg z] at p1 e
        rw [if_neg z'] at p2 e
        rw [← hB j z] at p1 e
        rw [← hB j' z'] at p2 e
        exact k2.2 j j' hj1 hj2 p1 p2 e⟩) fun b ⟨j, hj, p, e⟩ => by
    have hj1 : j < xs1.length := by rw [hl]; simpa using hj
    unfold updF at p e
    by_cases z : j = i
    · rw [if_pos z] at p e; exact .inl ⟨p, e⟩
    · rw [if_neg z, ← hB j z] at p e; exact .inr ⟨j, hj1, p, e⟩
/-- a row is taken out -/
theorem Le.takeG (h1 : Rem s.heap (gridH te B xs) r1) (hi : i < xs.length) : Le s ⟨s.env, .one (B i) te (El.size α) (row (xs.getD i [])) :: gridH te (updF B i ⟨0, 0, 0⟩) (xs.set i []) :: r1⟩ := Le.split2 h1 (fun I w k => ⟨k.1 i hi, ⟨fun j hj => by
    have hj' : j < xs.length := by simpa using hj
    show BOk I w (updF B i ⟨0, 0, 0⟩ j) te (El.size α) (row ((xs.set i []).getD j []))
    rw [getD_set _ _ _ _ _ hj']
    unfold updF
    by_cases z : j = i
    · rw [if_pos z, if_pos z]; exact ⟨Nat.le_refl _, fun h => absurd h (by simp)⟩
    · rw [if_neg z, if_neg z]; exact k.1 j hj', fun j j' hj hj' p1 p2 e => by
    unfold updF at p1 p2 e
    by_cases z : j = i
    · rw [if_pos z] at p1; exact absurd p1 (by simp)
    · by_cases z' : j' = i
      · rw [if_pos z'] at p2; exact absurd p2 (by simp)
      · rw [if_neg z] at p1 e
        rw [if_neg z'] at p2 e
        exact k.2 j j' (by simpa using hj) (by simpa using hj') p1 p2 e⟩, fun b ⟨p, e⟩ ⟨j, hj, p', e'⟩ => by
    unfold updF at p' e'
    by_cases z : j = i
    · rw [if_pos z] at p'; exact absurd p' (by simp)
    · rw [if_neg z] at p' e'
      exact z (k.2 j i (by simpa using hj) hi p' p (by rw [← e', ← e]))⟩) (fun b ⟨p, e⟩ => ⟨i, hi, p, e⟩) fun b ⟨j, hj, p, e⟩ => by
    unfold updF at p e
    by_cases z : j = i
    · rw [if_pos z] at p; exact absurd p (by simp)
    · rw [if_neg z] at p e; exact ⟨j, by simpa using hj, p, e⟩
/-- the rows stand in another order -/
theorem HLe.gridS {σ : Nat → Nat} {B' : Nat → BK} {xs' : List (List α)} (hl : xs'.length = xs.length) (hσ : ∀ j, j < xs.length → σ j < xs.length) (hinj : ∀ j j', j < xs.length → j' < xs.length → σ j = σ j' → j = j') (hB : ∀ j, j < xs.length → B' j = B (σ j)) (hx : ∀ j, j < xs.length → xs'.getD j [] = xs.getD (σ j) []) :
    HLe (gridH te B xs) (gridH te B' xs') := ⟨fun I w k => ⟨fun j hj => by
    have hj' : j < xs.length := by rw [← hl]; exact hj
    show BOk I w (B' j) te (El.size α) (row (xs'.getD j []))
    rw [hB j hj', hx j hj']
    exact k.1 _ (hσ j hj'), fun j j' hj hj' p1 p2 e => by
    have g1 : j < xs.length := by rw [← hl]; exact hj
    have g2 : j' < xs.length := by rw [← hl]; exact hj'
    rw [hB j g1] at p1 e
    rw [hB j' g2] at p2 e
    exact hinj j j' g1 g2 (k.2 _ _ (hσ j g1) (hσ j' g2) p1 p2 e)⟩, fun b ⟨j, hj, p, e⟩ => by
    have g1 : j < xs.length := by rw [← hl]; exact hj
    rw [hB j g1] at p e
    exact ⟨σ j, hσ j g1, p, e⟩⟩
theorem Lend.of_bok {H : List HL} {β : BK} {t : TypeId} {size len : Nat} {c : C} (hb : ∀ I w, (∀ h, h ∈ H → h.ok I w) → BOk I w β t size c) (hf : 0 < β.s → fps H β.b) (hl : len = c.len) {d : D} (hd : D.sl size c.len c.get = d) : Lend H (.own β size 0 len) d := by
  subst hd hl
  intro I w v hok hr
  have h1 := Lend.all (H := [.one β t size c]) At.p0 rfl I w v (fun h hh => by rw [List.mem_singleton.1 hh]; exact hb I w hok) hr
  exact h1.mono (fun b hb' => hb'.imp id fun ⟨z, hz, hzb⟩ => by rw [List.mem_singleton.1 hz] at hzb; rw [hzb.2]; exact hf hzb.1) fun _ _ => rfl
/-- one row of the rows is lent -/
theorem Lend.gridRow {H H' : List HL} {len size : Nat} (hm : At H (gridH te B xs) (gridH te B xs) H') (hi : i < xs.length) (hl : len = (xs.getD i []).length) (hs : size = El.size α) : Lend H (.own (B i) size 0 len) (slD (xs.getD i [])) := by
  subst hs
  exact Lend.of_bok (t := te) (c := row (xs.getD i [])) (fun I w hok => (hok _ hm.mem).1 i hi) (fun hp => ⟨_, hm.mem, i, hi, hp, rfl⟩) hl rfl
/-- all are lent -/
theorem Lend.grid {H H1 H2 : List HL} {βo : BK} {to : TypeId} {len : Nat} (ho : At H (.one βo to 1 (gridC B xs)) (.one βo to 1 (gridC B xs)) H1) (hm : At H (gridH te B xs) (gridH te B xs) H2) (hl : len = xs.length) : Lend H (.own βo 1 0 len) (slD xs) := by
  subst hl
  rintro I w v hok ⟨a, cap, rfl, h1, h2, h3, h4⟩
  refine ⟨a, cap, rfl, h1, h2, fun h0 => ⟨βo.b, βo.o + 0 * 1, h4 (by omega), .inr ⟨_, ho.mem, by omega, rfl⟩, fun e he f hf => ?_⟩⟩
  have hb : BOk I w βo to 1 (gridC B xs) := hok _ ho.mem
  have hf0 : f = 0 := by have : f < 1 := hf; omega
  subst hf0
  obtain ⟨u, hu, hone, hr⟩ := hb.cell (e := e) (f := 0) he (by omega)
  refine ⟨u, ?_, hone, ?_⟩
  · rw [show βo.o + 0 * 1 + (e * El.size (List α) + 0) = βo.o + (e * 1 + 0) by rw [show El.size (List α) = 1 from rfl]; omega]; exact hu
  · exact Lend.gridRow (xs := xs) (B := B) hm he rfl rfl I w u hok hr
end
section
variable {X : Cx} {fn : Func} {R : Ending → World → Prop} {k : List It} {s : St} {α : Type} [El α] {te to : TypeId} {B : Nat → BK} {xs : List (List α)} {βo : BK} {rest rest' : List HL} {j : Nat} {r : D}
theorem sat_freezeG {I : Nat → Prop} {a : Act} {w : World} (hj : look s.env j = some r) (hrem : Rem s.heap (gridH te B xs) rest) (hA : ∀ b, ¬ X.may b) (hat : At rest (.one βo to 1 (gridC B xs)) (.one βo to 1 (row xs)) rest') (hs : Sat X I s a w) :
    Sat X (fun b => I b ∨ fps [gridH te B xs] b) ⟨(j, r) :: s.env, rest'⟩ a w :=
  sat_freezeB hj hrem (Lend.refl _ r) (fun b _ => hA b) hat rfl (fun e he => ⟨trivial, Lend.gridRow At.p0 he rfl rfl⟩) hs
theorem no_may (b : Nat) (h : fps [] b) : False := by
  obtain ⟨_, h, _⟩ := h
  cases h
/-- the inner rows become data -/
theorem GoO.freezeG {all : Array Oper} {os : List Oper} (hj : look s.env j = some r) (hrem : Rem s.heap (gridH te B xs) rest) (hA : ∀ b, ¬ X.may b) (hat : At rest (.one βo to 1 (gridC B xs)) (.one βo to 1 (row xs)) rest') (h : GoO X fn R all os k ⟨(j, r) :: s.env, rest'⟩) : GoO X fn R all os k s :=
  ⟨fun I a w hs => h.run _ a w (sat_freezeG hj hrem hA hat hs)⟩
end
instance {α : Type} [El α] {B : Nat → BK} {xs : List (List α)} : IndepC (gridC B xs) := ⟨fun _ _ => inferInstanceAs (Indep (.own _ _ _ _))⟩
instance {α : Type} [El α] [he : IndepE α] {te : TypeId} {B : Nat → BK} {xs : List (List α)} {H : List HL} [hh : IndepH H] : IndepH (gridH te B xs :: H) := ⟨fun x hx I w hk => by
  rcases List.mem_cons.1 hx with rfl | hx
  · exact ⟨fun i hi => BOk.indep inferInstance (hk.1 i hi), hk.2⟩
  · exact hh.h x hx I w hk⟩
end Go.Proofs.Ytgkcmjmofcekmaa.Sx
