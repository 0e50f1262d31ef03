/- Closures: function values that name boxes; calls of them. Boxes lent as data. -/
import Derived.Test.YtgkcmjmofcekmaaSxH
namespace Go.Proofs.Ytgkcmjmofcekmaa.Sx
open Go
set_option linter.unusedVariables false
set_option linter.unusedSimpArgs false
section
variable {X : Cx} {fn : Func} {R : Ending → World → Prop} {k : List It} {s : St} {all : Array Oper} {os : List Oper} {d : Tmp} {ty : TypeId} {pos : String} {aft : Array Edge} {gd : Option (Nat × Bool)} {x y : Operand} {q : D} {H0 : List HL}
/-- A call: of the rows that are not the callee's, those of L are lent. After it they are data for good (fz), or the caller's own again: then the result must name none of them. -/
theorem ef_callH (fz : Bool) {op : Op} {f : FuncId} {ds ds' : List D} {Hin rest L rest' : List HL} {post : D → List HL → Prop}
    (hcall : ∀ I a w, Sat X I s a w → ∃ vs : List Value, (execOp a.eval ⟨some d, op, ty, pos, aft, gd⟩).run X.P w = .ok (.enter f vs.toArray) w ∧ RdL I w ds vs) (ht : Take s.heap Hin rest) (hL : Take rest L rest') (spec : Does X.P f ds' Hin post) (hl : LendL L ds ds') (hd : Nat.blt d X.nt = true)
    (hfz : cond fz (∀ b, fps L b → ¬ X.may b) (IndepP post)) :
    ∀ I a w, Sat X I s a w → ∀ Q, Oper.wp X.P ⟨some d, op, ty, pos, aft, gd⟩ a w (fun a' w' => Same w w' (fps Hin) ∧ ∃ s2, (∃ r H', post r H' ∧ s2 = ⟨(d, r) :: s.env, H' ++ cond fz rest' rest⟩) ∧ ∃ I', ((fz = false → I' = I) ∧ ∀ b, I b → I' b) ∧ Sat X I' s2 a' w') Q := fun I a w hs Q => by
  have hp := ht.perm
  have hpL := hL.perm
  have hrest : ∀ h, h ∈ rest → h ∈ s.heap := fun h hh => hp.mem_iff.2 (List.mem_append_right _ hh)
  have hin : ∀ h, h ∈ Hin → h ∈ s.heap := fun h hh => hp.mem_iff.2 (List.mem_append_left _ hh)
  have hLr : ∀ h, h ∈ L → h ∈ rest := fun h hh => hpL.mem_iff.2 (List.mem_append_left _ hh)
  have hRr : ∀ h, h ∈ rest' → h ∈ rest := fun h hh => hpL.mem_iff.2 (List.mem_append_right _ hh)
  have hfL : ∀ b, fps L b → fps rest b := fun b ⟨z, hz, hzb⟩ => ⟨z, hLr z hz, hzb⟩
  obtain ⟨hs1, hs2, hs3⟩ := List.pairwise_append.1 (sep_perm hp hs.sep)
  obtain ⟨vs, hr, hvs⟩ := hcall I a w hs
  have hargs := RdL.lend (H := L) (fun h hh => hs.heap h (hrest h (hLr h hh))) hl hvs
  have hI' : ∀ b, (I b ∨ fps rest b) → b < w.heap.size := fun b hb => by
    rcases hb with hb | ⟨z, hz, hzb⟩
    · exact (hs.imm b hb).1
    · exact (hs.own b ⟨z, hrest z hz, hzb⟩).2.2
  have hIL : ∀ b, (I b ∨ fps L b) → b < w.heap.size := fun b hb => hI' b (hb.imp id (hfL b))
  unfold Oper.wp
  rw [hr]
  refine (spec (fun b => I b ∨ fps L b) w _ hargs ⟨fun h hh => (hs.heap h (hin h hh)).mono (fun _ h => .inl h) (fun _ _ => rfl) (fun _ _ => rfl), hs1, fun b ⟨z, hz, hzb⟩ => ?_⟩ hIL (hs.tab.mono (fun _ h => .inl h) (fun _ _ => rfl))).mono ?_
  · obtain ⟨o1, o2, o3⟩ := hs.own b ⟨z, hin z hz, hzb⟩
    refine ⟨fun hh => ?_, o3⟩
    rcases hh with hh | hh
    · exact o1 hh
    · obtain ⟨z', hz', hzb'⟩ := hfL b hh
      exact hs3 z hz z' hz' b hzb hzb'
  · rintro e w' ⟨v, r, H', N, he, hpost, hr, hok, hN, hfp, hsame⟩
    subst he
    refine ⟨hsame, _, ⟨r, H', hpost, rfl⟩, ?_⟩
    have hI : ∀ b, I b → w'.heap[b]? = w.heap[b]? := fun b hb => hsame.block b (hs.imm b hb).1 fun ⟨z, hz, hzb⟩ => (hs.own b ⟨z, hin z hz, hzb⟩).1 hb
    have hR : ∀ b, fps rest b → w'.heap[b]? = w.heap[b]? := fun b hb => hsame.block b (hI' b (.inr hb)) fun ⟨z, hz, hzb⟩ => by
      obtain ⟨z', hz', hzb'⟩ := hb
      exact hs3 z hz z' hz' b hzb hzb'
    cases fz with
    | false =>
      have hind := hfz r H' hpost
      have hNoI : Rd I w' r v := (hind.1 _ _ _ hr).mono (fun _ h => h.elim) (fun _ _ => rfl)
      refine ⟨I, ⟨fun _ => rfl, fun _ h => h⟩, Sat.put (s := ⟨s.env, H' ++ rest⟩) ⟨hs.tsz, hs.dfr, fun j e hj => (hs.env j e hj).mono (fun _ h => h) hI, fun z hz => ?_, ?_, ?_, fun b hb => ⟨Nat.lt_of_lt_of_le (hs.imm b hb).1 hsame.size, (hs.imm b hb).2⟩, hs.i0,
        hs.same.step hsame fun i ⟨z, hz, hzb⟩ => (hs.own i ⟨z, hin z hz, hzb⟩).2.1.symm⟩ (blt_lt hd) hNoI⟩
      · rcases List.mem_append.1 hz with hz | hz
        · exact (hind.2 z hz _ _ (hok.ok z hz)).mono (fun _ h => h.elim) (fun _ _ => rfl) (fun _ _ => rfl)
        · exact (hs.heap z (hrest z hz)).mono (fun _ h => h) hI fun b hb => hR b ⟨z, hz, hb⟩
      · refine List.pairwise_append.2 ⟨hok.sep, hs2, fun z hz z' hz' b hb hb' => ?_⟩
        rcases hfp b ⟨z, hz, hb⟩ with ⟨u, hu, hub⟩ | h1
        · exact hs3 u hu z' hz' b hub hb'
        · have := hI' b (.inr ⟨z', hz', hb'⟩)
          omega
      · rintro b ⟨z, hz, hzb⟩
        rcases List.mem_append.1 hz with hz | hz
        · have h1 := (hok.own b ⟨z, hz, hzb⟩).2
          rcases hfp b ⟨z, hz, hzb⟩ with ⟨u, hu, hub⟩ | h2
          · obtain ⟨o1, o2, _⟩ := hs.own b ⟨u, hin u hu, hub⟩
            exact ⟨o1, o2, h1⟩
          · refine ⟨fun hi => ?_, .inl (Nat.le_trans hs.same.size h2), h1⟩
            have := (hs.imm b hi).1
            omega
        · obtain ⟨o1, o2, o3⟩ := hs.own b ⟨z, hrest z hz, hzb⟩
          exact ⟨o1, o2, Nat.lt_of_lt_of_le o3 hsame.size⟩
    | true =>
      obtain ⟨hq1, hq2, hq3⟩ := List.pairwise_append.1 (sep_perm hpL hs2)
      have hmay : ∀ b, fps L b → ¬ X.may b := hfz
      refine ⟨Or' (Or' I (fps L)) N, ⟨(fun h => by cases h), fun _ h => .inl (.inl h)⟩, Sat.put (s := ⟨s.env, H' ++ rest'⟩) ⟨hs.tsz, hs.dfr, fun j e hj => (hs.env j e hj).mono (fun _ h => .inl (.inl h)) hI, fun z hz => ?_, ?_, ?_, ?_, fun b hb => .inl (.inl (hs.i0 b hb)),
        hs.same.step hsame fun i ⟨z, hz, hzb⟩ => (hs.own i ⟨z, hin z hz, hzb⟩).2.1.symm⟩ (blt_lt hd) hr⟩
      · rcases List.mem_append.1 hz with hz | hz
        · exact hok.ok z hz
        · exact (hs.heap z (hrest z (hRr z hz))).mono (fun _ h => .inl (.inl h)) hI fun b hb => hR b ⟨z, hRr z hz, hb⟩
      · refine List.pairwise_append.2 ⟨hok.sep, hq2, fun z hz z' hz' b hb hb' => ?_⟩
        rcases hfp b ⟨z, hz, hb⟩ with ⟨u, hu, hub⟩ | h1
        · exact hs3 u hu z' (hRr z' hz') b hub hb'
        · have := hI' b (.inr ⟨z', hRr z' hz', hb'⟩)
          omega
      · rintro b ⟨z, hz, hzb⟩
        rcases List.mem_append.1 hz with hz | hz
        · have h1 := hok.own b ⟨z, hz, hzb⟩
          refine ⟨h1.1, ?_, h1.2⟩
          rcases hfp b ⟨z, hz, hzb⟩ with ⟨u, hu, hub⟩ | h2
          · exact (hs.own b ⟨u, hin u hu, hub⟩).2.1
          · exact .inl (Nat.le_trans hs.same.size h2)
        · obtain ⟨o1, o2, o3⟩ := hs.own b ⟨z, hrest z (hRr z hz), hzb⟩
          refine ⟨fun hh => ?_, o2, Nat.lt_of_lt_of_le o3 hsame.size⟩
          rcases hh with (hh | ⟨z', hz', hzb'⟩) | hh
          · exact o1 hh
          · exact hq3 z' hz' z hz b hzb' hzb
          · have := (hN b hh).1
            omega
      · rintro b ((hb | hb) | hb)
        · exact ⟨Nat.lt_of_lt_of_le (hs.imm b hb).1 hsame.size, (hs.imm b hb).2⟩
        · have h1 := hs.own b (let ⟨z, hz, hzb⟩ := hb; ⟨z, hrest z (hLr z hz), hzb⟩)
          exact ⟨Nat.lt_of_lt_of_le h1.2.2 hsame.size, .inr (h1.2.1.resolve_right (hmay b hb))⟩
        · exact ⟨(hN b hb).2, .inr (Nat.le_trans hs.same.size (hN b hb).1)⟩


theorem RdL.append {I : Nat → Prop} {w : World} : ∀ {l l' : List D} {vs vs' : List Value}, RdL I w l vs → RdL I w l' vs' → RdL I w (l ++ l') (vs ++ vs')
  | [], _, _, _, h, h' => by rw [show _ = [] from h]; exact h'
  | d :: l, _, _, _, ⟨v, r, e, h1, h2⟩, h' => by subst e; exact ⟨v, _, rfl, h1, RdL.append h2 h'⟩
theorem RdL.nth {I : Nat → Prop} {w : World} : ∀ {l : List D} {vs : List Value}, RdL I w l vs → ∀ i, i < l.length → ∃ u, vs[i]? = some u ∧ Rd I w (Sx.nth l i) u
  | [], _, _, i, hi => absurd hi (by simp)
  | d :: l, _, ⟨v, r, e, h1, h2⟩, i, hi => by
    subst e
    cases i with
    | zero => exact ⟨v, rfl, h1⟩
    | succ i =>
      obtain ⟨u, h3, h4⟩ := RdL.nth h2 i (by simpa using hi)
      exact ⟨u, by simpa using h3, h4⟩
theorem RdL.of_nth {I : Nat → Prop} {w : World} : ∀ {l : List D} {vs : List Value}, vs.length = l.length → (∀ i, i < l.length → ∃ u, vs[i]? = some u ∧ Rd I w (Sx.nth l i) u) → RdL I w l vs
  | [], vs, h, _ => List.eq_nil_of_length_eq_zero h
  | d :: l, [], h, _ => by simp at h
  | d :: l, v :: vs, h, hi => by
    obtain ⟨u, h1, h2⟩ := hi 0 (by simp)
    have : v = u := by simpa using h1
    subst this
    refine ⟨v, vs, rfl, h2, RdL.of_nth (by simpa using h) fun i hil => ?_⟩
    obtain ⟨u, h3, h4⟩ := hi (i + 1) (by simpa using hil)
    exact ⟨u, by simpa using h3, h4⟩
theorem ps_makeFunc {f : FuncId} {xs : List Operand} {ds : List D} {n : Nat} (hx : evL s xs = some ds) (hn : n = ds.length) (hd : Nat.blt d X.nt = true) :
    PureStep X H0 ⟨some d, .makeFunc (.func f) #[] xs.toArray, ty, pos, aft, none⟩ s (s.put d (.fn f n (nth ds))) :=
  ps_of hd fun I a w hs => by
    subst hn
    have h := hs.evL hx
    refine ⟨.func (.func f) #[] (xs.map a.eval).toArray, fun w' _ => by simp [execOp, Instr.makeFunc], (xs.map a.eval).toArray, rfl, by simpa using RdL.length h, fun i hi => ?_⟩
    obtain ⟨u, h1, h2⟩ := RdL.nth h i hi
    exact ⟨u, by simpa using h1, h2⟩
/-- a call of a function value -/
theorem callv_run {f : FuncId} [hf : FnT X.P f] {xs : List Operand} {ats : Array TypeId} {c : Operand} {n : Nat} {ds cs : List D} (hc : s.ev c = some (.fn f n (nth cs))) (hn : n = cs.length) (hx : evL s xs = some ds) :
    ∀ I a w, Sat X I s a w → ∃ vs : List Value, (execOp a.eval ⟨some d, .call { callee := .value c, args := xs.toArray, argTypes := ats }, ty, pos, aft, gd⟩).run X.P w = .ok (.enter f vs.toArray) w ∧ RdL I w (ds ++ cs) vs := fun I a w hs => by
  subst hn
  obtain ⟨us, e, h1, h2⟩ := hs.ev hc
  refine ⟨xs.map a.eval ++ us.toList, ?_, RdL.append (hs.evL hx) (RdL.of_nth (by simpa using h1) fun i hi => ?_)⟩
  · simp [execOp, resolve, e, Deferred.ofValue, invoke, hf.run]
  · obtain ⟨u, h3, h4⟩ := h2 i hi
    exact ⟨u, by simpa using h3, h4⟩
theorem ef_callv {f : FuncId} [hf : FnT X.P f] {xs : List Operand} {ats : Array TypeId} {c : Operand} {n : Nat} {ds cs ds' : List D} {Hin rest L rest' : List HL} {post : D → List HL → Prop}
    (hc : s.ev c = some (.fn f n (nth cs))) (hn : n = cs.length) (hx : evL s xs = some ds) (ht : Take s.heap Hin rest) (hL : Take rest L rest') (spec : Does X.P f ds' Hin post) (hl : LendL L (ds ++ cs) ds') (hd : Nat.blt d X.nt = true) (hi : IndepP post) :
    Eff X ⟨some d, .call { callee := .value c, args := xs.toArray, argTypes := ats }, ty, pos, aft, gd⟩ s Hin (fun s2 => ∃ r H', post r H' ∧ s2 = ⟨(d, r) :: s.env, H' ++ rest⟩) := fun I a w hs Q =>
  Oper.wp_mono (fun a' w' ⟨h1, s2, h2, I', h3, h4⟩ => ⟨h1, s2, h2, h3.1 rfl ▸ h4⟩) (ef_callH false (callv_run hc hn hx) ht hL spec hl hd hi I a w hs Q)
theorem GoO.callvF {f : FuncId} [hf : FnT X.P f] {xs : List Operand} {ats : Array TypeId} {c : Operand} {n : Nat} {ds cs ds' : List D} {Hin rest L rest' : List HL} {post : D → List HL → Prop}
    (hc : s.ev c = some (.fn f n (nth cs))) (hn : n = cs.length) (hx : evL s xs = some ds) (ht : Take s.heap Hin rest) (hL : Take rest L rest') (spec : Does X.P f ds' Hin post) (hl : LendL L (ds ++ cs) ds') (hd : Nat.blt d X.nt = true) (hm : ∀ b, fps L b → ¬ X.may b)
    (h : ∀ r H', post r H' → GoO X fn R all os k ⟨(d, r) :: s.env, H' ++ rest'⟩) :
    GoO X fn R all (⟨some d, .call { callee := .value c, args := xs.toArray, argTypes := ats }, ty, pos, aft, none⟩ :: os) k s :=
  ⟨fun I a w hs => wpList_plain rfl fun K hK => Oper.wp_mono (fun a' w' ⟨_, s2, ⟨r, H', hp, e⟩, I', _, h4⟩ => hK _ _ (by subst e; exact (h r H' hp).run I' a' w' h4)) (ef_callH true (callv_run hc hn hx) ht hL spec hl hd hm I a w hs _)⟩
end
section
variable {X : Cx} {fn : Func} {R : Ending → World → Prop} {k : List It} {s : St} {all : Array Oper} {H0 : List HL} {p1 p2 : Plan} {i j : Nat}
theorem GoP.fork6 (F : BK → BK → BK → BK → BK → BK → St) {o1 o2 : Oper} {wr1 wr2 r1 r2 : List HL} {next1 next2 : St → Prop} (hi1 : all[i]? = some o1) (hi2 : all[j]? = some o2) (hg1 : Lets X all s o1.guard) (hg2 : Lets X all s o2.guard)
    (he1 : Eff X o1 s wr1 next1) (he2 : Eff X o2 s wr2 next2) (ht1 : Take s.heap (wr1 ++ H0) r1) (ht2 : Take s.heap (wr2 ++ H0) r2) (h1 : (∀ β0 β1 β2 β3 β4 β5 : BK, GoK X fn R k (F β0 β1 β2 β3 β4 β5)) → ∀ s', next1 s' → GoP X fn R all H0 p1 k s') (h2 : (∀ β0 β1 β2 β3 β4 β5 : BK, GoK X fn R k (F β0 β1 β2 β3 β4 β5)) → ∀ s', next2 s' → GoP X fn R all H0 p2 k s') (hQ : (∀ β0 β1 β2 β3 β4 β5 : BK, GoK X fn R k (F β0 β1 β2 β3 β4 β5))) :
    GoP X fn R all H0 (.two i j p1 p2) k s := GoP.two hi1 hi2 hg1 hg2 he1 he2 ht1 ht2 (h1 hQ) (h2 hQ)
theorem GoP.forkT6 (F : BK → BK → BK → BK → BK → BK → St) {l : Nat} {p3 : Plan} {o1 o2 o3 : Oper} {wr1 wr2 wr3 r1 r2 r3 : List HL} {next1 next2 next3 : St → Prop} (hi1 : all[i]? = some o1) (hi2 : all[j]? = some o2) (hi3 : all[l]? = some o3) (hg1 : Lets X all s o1.guard) (hg2 : Lets X all s o2.guard) (hg3 : Lets X all s o3.guard)
    (he1 : Eff X o1 s wr1 next1) (he2 : Eff X o2 s wr2 next2) (he3 : Eff X o3 s wr3 next3) (ht1 : Take s.heap (wr1 ++ H0) r1) (ht2 : Take s.heap (wr2 ++ H0) r2) (ht3 : Take s.heap (wr3 ++ H0) r3)
    (h1 : (∀ β0 β1 β2 β3 β4 β5 : BK, GoK X fn R k (F β0 β1 β2 β3 β4 β5)) → ∀ s', next1 s' → GoP X fn R all H0 p1 k s') (h2 : (∀ β0 β1 β2 β3 β4 β5 : BK, GoK X fn R k (F β0 β1 β2 β3 β4 β5)) → ∀ s', next2 s' → GoP X fn R all H0 p2 k s') (h3 : (∀ β0 β1 β2 β3 β4 β5 : BK, GoK X fn R k (F β0 β1 β2 β3 β4 β5)) → ∀ s', next3 s' → GoP X fn R all H0 p3 k s') (hQ : (∀ β0 β1 β2 β3 β4 β5 : BK, GoK X fn R k (F β0 β1 β2 β3 β4 β5))) :
    GoP X fn R all H0 (.three i j l p1 p2 p3) k s := GoP.three hi1 hi2 hi3 hg1 hg2 hg3 he1 he2 he3 ht1 ht2 ht3 (h1 hQ) (h2 hQ) (h3 hQ)
theorem GoP.fork7 (F : BK → BK → BK → BK → BK → BK → BK → St) {o1 o2 : Oper} {wr1 wr2 r1 r2 : List HL} {next1 next2 : St → Prop} (hi1 : all[i]? = some o1) (hi2 : all[j]? = some o2) (hg1 : Lets X all s o1.guard) (hg2 : Lets X all s o2.guard)
    (he1 : Eff X o1 s wr1 next1) (he2 : Eff X o2 s wr2 next2) (ht1 : Take s.heap (wr1 ++ H0) r1) (ht2 : Take s.heap (wr2 ++ H0) r2) (h1 : (∀ β0 β1 β2 β3 β4 β5 β6 : BK, GoK X fn R k (F β0 β1 β2 β3 β4 β5 β6)) → ∀ s', next1 s' → GoP X fn R all H0 p1 k s') (h2 : (∀ β0 β1 β2 β3 β4 β5 β6 : BK, GoK X fn R k (F β0 β1 β2 β3 β4 β5 β6)) → ∀ s', next2 s' → GoP X fn R all H0 p2 k s') (hQ : (∀ β0 β1 β2 β3 β4 β5 β6 : BK, GoK X fn R k (F β0 β1 β2 β3 β4 β5 β6))) :
    GoP X fn R all H0 (.two i j p1 p2) k s := GoP.two hi1 hi2 hg1 hg2 he1 he2 ht1 ht2 (h1 hQ) (h2 hQ)
theorem GoP.forkT7 (F : BK → BK → BK → BK → BK → BK → BK → St) {l : Nat} {p3 : Plan} {o1 o2 o3 : Oper} {wr1 wr2 wr3 r1 r2 r3 : List HL} {next1 next2 next3 : St → Prop} (hi1 : all[i]? = some o1) (hi2 : all[j]? = some o2) (hi3 : all[l]? = some o3) (hg1 : Lets X all s o1.guard) (hg2 : Lets X all s o2.guard) (hg3 : Lets X all s o3.guard)
    (he1 : Eff X o1 s wr1 next1) (he2 : Eff X o2 s wr2 next2) (he3 : Eff X o3 s wr3 next3) (ht1 : Take s.heap (wr1 ++ H0) r1) (ht2 : Take s.heap (wr2 ++ H0) r2) (ht3 : Take s.heap (wr3 ++ H0) r3)
    (h1 : (∀ β0 β1 β2 β3 β4 β5 β6 : BK, GoK X fn R k (F β0 β1 β2 β3 β4 β5 β6)) → ∀ s', next1 s' → GoP X fn R all H0 p1 k s') (h2 : (∀ β0 β1 β2 β3 β4 β5 β6 : BK, GoK X fn R k (F β0 β1 β2 β3 β4 β5 β6)) → ∀ s', next2 s' → GoP X fn R all H0 p2 k s') (h3 : (∀ β0 β1 β2 β3 β4 β5 β6 : BK, GoK X fn R k (F β0 β1 β2 β3 β4 β5 β6)) → ∀ s', next3 s' → GoP X fn R all H0 p3 k s') (hQ : (∀ β0 β1 β2 β3 β4 β5 β6 : BK, GoK X fn R k (F β0 β1 β2 β3 β4 β5 β6))) :
    GoP X fn R all H0 (.three i j l p1 p2 p3) k s := GoP.three hi1 hi2 hi3 hg1 hg2 hg3 he1 he2 he3 ht1 ht2 ht3 (h1 hQ) (h2 hQ) (h3 hQ)
theorem GoP.fork8 (F : BK → BK → BK → BK → BK → BK → BK → BK → St) {o1 o2 : Oper} {wr1 wr2 r1 r2 : List HL} {next1 next2 : St → Prop} (hi1 : all[i]? = some o1) (hi2 : all[j]? = some o2) (hg1 : Lets X all s o1.guard) (hg2 : Lets X all s o2.guard)
    (he1 : Eff X o1 s wr1 next1) (he2 : Eff X o2 s wr2 next2) (ht1 : Take s.heap (wr1 ++ H0) r1) (ht2 : Take s.heap (wr2 ++ H0) r2) (h1 : (∀ β0 β1 β2 β3 β4 β5 β6 β7 : BK, GoK X fn R k (F β0 β1 β2 β3 β4 β5 β6 β7)) → ∀ s', next1 s' → GoP X fn R all H0 p1 k s') (h2 : (∀ β0 β1 β2 β3 β4 β5 β6 β7 : BK, GoK X fn R k (F β0 β1 β2 β3 β4 β5 β6 β7)) → ∀ s', next2 s' → GoP X fn R all H0 p2 k s') (hQ : (∀ β0 β1 β2 β3 β4 β5 β6 β7 : BK, GoK X fn R k (F β0 β1 β2 β3 β4 β5 β6 β7))) :
    GoP X fn R all H0 (.two i j p1 p2) k s := GoP.two hi1 hi2 hg1 hg2 he1 he2 ht1 ht2 (h1 hQ) (h2 hQ)
theorem GoP.forkT8 (F : BK → BK → BK → BK → BK → BK → BK → BK → St) {l : Nat} {p3 : Plan} {o1 o2 o3 : Oper} {wr1 wr2 wr3 r1 r2 r3 : List HL} {next1 next2 next3 : St → Prop} (hi1 : all[i]? = some o1) (hi2 : all[j]? = some o2) (hi3 : all[l]? = some o3) (hg1 : Lets X all s o1.guard) (hg2 : Lets X all s o2.guard) (hg3 : Lets X all s o3.guard)
    (he1 : Eff X o1 s wr1 next1) (he2 : Eff X o2 s wr2 next2) (he3 : Eff X o3 s wr3 next3) (ht1 : Take s.heap (wr1 ++ H0) r1) (ht2 : Take s.heap (wr2 ++ H0) r2) (ht3 : Take s.heap (wr3 ++ H0) r3)
    (h1 : (∀ β0 β1 β2 β3 β4 β5 β6 β7 : BK, GoK X fn R k (F β0 β1 β2 β3 β4 β5 β6 β7)) → ∀ s', next1 s' → GoP X fn R all H0 p1 k s') (h2 : (∀ β0 β1 β2 β3 β4 β5 β6 β7 : BK, GoK X fn R k (F β0 β1 β2 β3 β4 β5 β6 β7)) → ∀ s', next2 s' → GoP X fn R all H0 p2 k s') (h3 : (∀ β0 β1 β2 β3 β4 β5 β6 β7 : BK, GoK X fn R k (F β0 β1 β2 β3 β4 β5 β6 β7)) → ∀ s', next3 s' → GoP X fn R all H0 p3 k s') (hQ : (∀ β0 β1 β2 β3 β4 β5 β6 β7 : BK, GoK X fn R k (F β0 β1 β2 β3 β4 β5 β6 β7))) :
    GoP X fn R all H0 (.three i j l p1 p2 p3) k s := GoP.three hi1 hi2 hi3 hg1 hg2 hg3 he1 he2 he3 ht1 ht2 ht3 (h1 hQ) (h2 hQ) (h3 hQ)
theorem GoP.fork9 (F : BK → BK → BK → BK → BK → BK → BK → BK → BK → St) {o1 o2 : Oper} {wr1 wr2 r1 r2 : List HL} {next1 next2 : St → Prop} (hi1 : all[i]? = some o1) (hi2 : all[j]? = some o2) (hg1 : Lets X all s o1.guard) (hg2 : Lets X all s o2.guard)
    (he1 : Eff X o1 s wr1 next1) (he2 : Eff X o2 s wr2 next2) (ht1 : Take s.heap (wr1 ++ H0) r1) (ht2 : Take s.heap (wr2 ++ H0) r2) (h1 : (∀ β0 β1 β2 β3 β4 β5 β6 β7 β8 : BK, GoK X fn R k (F β0 β1 β2 β3 β4 β5 β6 β7 β8)) → ∀ s', next1 s' → GoP X fn R all H0 p1 k s') (h2 : (∀ β0 β1 β2 β3 β4 β5 β6 β7 β8 : BK, GoK X fn R k (F β0 β1 β2 β3 β4 β5 β6 β7 β8)) → ∀ s', next2 s' → GoP X fn R all H0 p2 k s') (hQ : (∀ β0 β1 β2 β3 β4 β5 β6 β7 β8 : BK, GoK X fn R k (F β0 β1 β2 β3 β4 β5 β6 β7 β8))) :
    GoP X fn R all H0 (.two i j p1 p2) k s := GoP.two hi1 hi2 hg1 hg2 he1 he2 ht1 ht2 (h1 hQ) (h2 hQ)
theorem GoP.forkT9 (F : BK → BK → BK → BK → BK → BK → BK → BK → BK → St) {l : Nat} {p3 : Plan} {o1 o2 o3 : Oper} {wr1 wr2 wr3 r1 r2 r3 : List HL} {next1 next2 next3 : St → Prop} (hi1 : all[i]? = some o1) (hi2 : all[j]? = some o2) (hi3 : all[l]? = some o3) (hg1 : Lets X all s o1.guard) (hg2 : Lets X all s o2.guard) (hg3 : Lets X all s o3.guard)
    (he1 : Eff X o1 s wr1 next1) (he2 : Eff X o2 s wr2 next2) (he3 : Eff X o3 s wr3 next3) (ht1 : Take s.heap (wr1 ++ H0) r1) (ht2 : Take s.heap (wr2 ++ H0) r2) (ht3 : Take s.heap (wr3 ++ H0) r3)
    (h1 : (∀ β0 β1 β2 β3 β4 β5 β6 β7 β8 : BK, GoK X fn R k (F β0 β1 β2 β3 β4 β5 β6 β7 β8)) → ∀ s', next1 s' → GoP X fn R all H0 p1 k s') (h2 : (∀ β0 β1 β2 β3 β4 β5 β6 β7 β8 : BK, GoK X fn R k (F β0 β1 β2 β3 β4 β5 β6 β7 β8)) → ∀ s', next2 s' → GoP X fn R all H0 p2 k s') (h3 : (∀ β0 β1 β2 β3 β4 β5 β6 β7 β8 : BK, GoK X fn R k (F β0 β1 β2 β3 β4 β5 β6 β7 β8)) → ∀ s', next3 s' → GoP X fn R all H0 p3 k s') (hQ : (∀ β0 β1 β2 β3 β4 β5 β6 β7 β8 : BK, GoK X fn R k (F β0 β1 β2 β3 β4 β5 β6 β7 β8))) :
    GoP X fn R all H0 (.three i j l p1 p2 p3) k s := GoP.three hi1 hi2 hi3 hg1 hg2 hg3 he1 he2 he3 ht1 ht2 ht3 (h1 hQ) (h2 hQ) (h3 hQ)
end
theorem Lend.fn {H : List HL} {f : FuncId} {n : Nat} {l l' : List D} (h : LendL H l l') : Lend H (.fn f n (nth l)) (.fn f n (nth l')) := by
  rintro I w v hok ⟨vs, rfl, h1, h2⟩
  exact ⟨vs, rfl, h1, fun i hi => let ⟨u, h3, h5⟩ := h2 i hi; ⟨u, h3, LendL.at i h I w u hok h5⟩⟩
theorem Lend.fnV {H : List HL} {f : FuncId} : Lend H (.v (.func (.func f) #[] #[])) (.fn f 0 (nth [])) := by
  rintro I w v hok rfl
  exact ⟨#[], rfl, rfl, fun i hi => absurd hi (by omega)⟩
/-- a box is lent: as a pointer to data -/
theorem Lend.box {H H' : List HL} {β : BK} {t : TypeId} {size : Nat} {c : C} {ds ds' : List D} {g : Nat → Nat → D} {n : Nat} (hm : At H (.one β t size c) (.one β t size c) H') (hl : Nat.blt 0 c.len = true) (hs : size ≠ 0) (hc : AllLt size fun f => c.get 0 f = nth ds f) (h : LendL H ds ds') (he : AllLt size fun f => g 0 f = nth ds' f) (hn : n = 1) :
    Lend H (.ptr β size 0 0) (.rp size n g 0 0) := by
  subst hn
  rintro I w v hok rfl
  have hb : BOk I w β t size c := hok _ hm.mem
  have hbs : 0 < β.s := Nat.lt_of_lt_of_le (blt_lt hl) hb.1
  refine ⟨β.b, β.o, by simp, .inr ⟨_, hm.mem, hbs, rfl⟩, fun e he' f hf => ?_⟩
  obtain rfl : e = 0 := by omega
  obtain ⟨u, hu, ho, hr⟩ := hb.cell (blt_lt hl) hf
  refine ⟨u, by simpa using hu, ho, ?_⟩
  rw [he.all f hf]
  rw [hc.all f hf] at hr
  exact LendL.at f h I w u hok hr
section
variable {X : Cx} {s : St} {d : Tmp} {ty : TypeId} {pos : String} {aft : Array Edge} {x y : Operand} {H0 : List HL} {xt yt : TypeId} {m n : Int} {kd : IntKind}
theorem ps_mulw (hx : s.ev x = some (.v (.int kd m))) (hy : s.ev y = some (.v (.int kd n))) (hd : Nat.blt d X.nt = true) :
    PureStep X H0 ⟨some d, .binOp .mul xt x y yt, ty, pos, aft, none⟩ s (s.put d (.v (.int kd (kd.wrap (m * n))))) :=
  ps_bin hx hy hd fun w => by simp [binOp, Op.intArith]
end
/-! ### copy -/
/-- c' is c, but n entries from r on are get's. -/
structure Cpy (size : Nat) (c : C) (r n : Nat) (get : Nat → Nat → D) (c' : C) : Prop where
  hlen : c'.len = c.len
  hnew : ∀ e f, e < n → f < size → c'.get (r + e) f = get e f
  hold : ∀ e f, e < c.len → f < size → (e < r ∨ r + n ≤ e) → c'.get e f = c.get e f
theorem BOk.copy {I : Nat → Prop} {w : World} {β : BK} {t : TypeId} {size : Nat} {c c' : C} (h : BOk I w β t size c) {r n : Nat} {get : Nat → Nat → D} (hu : Cpy size c r n get c') (hr : r + n ≤ c.len) (h0 : 0 < n) {vs : List Value}
    (hn : vs.length = n * size) (hv : ∀ e, e < n → ∀ f, f < size → ∃ u, vs[e * size + f]? = some u ∧ u.oneCell' = true ∧ Rd I w (get e f) u) (hI : ¬ I β.b) :
    ∃ cs, w.heap[β.b]? = some (.cells cs t (0, 0)) ∧ β.o + r * size + vs.length ≤ cs.size ∧ BOk I (w.setRow β.b (splice cs (β.o + r * size) vs)) β t size c' := by
  obtain ⟨h0', h1⟩ := h
  obtain ⟨cs, hc, hsz, hget⟩ := h1 (by omega)
  have hle : (r + n) * size ≤ β.s * size := Nat.mul_le_mul_right _ (by omega)
  rw [Nat.add_mul] at hle
  have hfit : β.o + r * size + vs.length ≤ cs.size := by rw [hn, hsz]; omega
  refine ⟨cs, hc, hfit, by rw [hu.hlen]; exact h0', fun _ => ⟨splice cs (β.o + r * size) vs, setRow_heap w β.b cs _ t (0, 0) hc, by rw [size_splice _ _ _ hfit, hsz], fun e' he' f' hf' => ?_⟩⟩
  rw [hu.hlen] at he'
  have hmono : ∀ d u, Rd I w d u → Rd I (w.setRow β.b (splice cs (β.o + r * size) vs)) d u :=
    fun d u hr => hr.mono (fun _ h => h) (fun b hb => setRow_other w β.b b _ (fun e => hI (e ▸ hb)))
  rw [get_splice _ _ _ hfit, hn]
  by_cases hh : r ≤ e' ∧ e' < r + n
  · obtain ⟨k, rfl⟩ : ∃ k, e' = r + k := ⟨e' - r, by omega⟩
    have h7 := le_cells (s := n) (size := size) (e := k) (f := f' + 1) (by omega) (by omega)
    have e1 : (r + k) * size = r * size + k * size := Nat.add_mul ..
    obtain ⟨u, hu1, hu2, hu3⟩ := hv k (by omega) f' hf'
    rw [if_pos ⟨by omega, by omega⟩, hu.hnew k f' (by omega) hf']
    exact ⟨u, by rw [show β.o + ((r + k) * size + f') - (β.o + r * size) = k * size + f' by omega]; exact hu1, hu2, hmono _ _ hu3⟩
  · obtain ⟨u, hu1, hu2, hu3⟩ := hget e' he' f' hf'
    rw [hu.hold e' f' he' hf' (by omega), if_neg]
    · exact ⟨u, hu1, hu2, hmono _ _ hu3⟩
    · intro ⟨h3, h4⟩
      by_cases hlt : e' < r
      · have := le_cells (s := r) (size := size) (e := e') (f := f' + 1) hlt (by omega)
        omega
      · have : (r + n) * size ≤ e' * size := Nat.mul_le_mul_right _ (by omega)
        rw [Nat.add_mul] at this
        omega
section
variable {X : Cx} {s : St} {d : Tmp} {ty : TypeId} {pos : String} {aft : Array Edge} {gd : Option (Nat × Bool)} {x y : Operand} {q : D}
theorem ef_copy {t t2 e : TypeId} {size bytes : Nat} {zv : Value} [ht : SlT X.P t e] [hz : ZI X.P e size bytes zv] {β : BK} {r len m : Nat} {c c' : C} {get : Nat → Nat → D} {H : List HL}
    (hx : s.ev x = some (.own β size r len)) (hy : s.ev y = some q) (hm : At s.heap (.one β e size c) (.one β e size c') H) (hsrc : Src s.heap q size m get) (hu : Cpy size c r (min m len) get c') (hrl : r + len ≤ c.len) (hd : Nat.blt d X.nt = true) :
    Eff X ⟨some d, .call { callee := .builtin .copy, args := #[x, y], argTypes := #[t, t2] }, ty, pos, aft, gd⟩ s [.one β e size c] (fun s2 => s2 = ⟨(d, .v (.int .i64 ((min m len : Nat) : Int))) :: s.env, H⟩) := fun I a w hs Q => by
  obtain ⟨i, h1, h2, h3, h4, h5, h6⟩ := hz.h
  obtain ⟨a2, c2, hy1, hy2⟩ := hsrc I w _ hs.heap (hs.ev hy)
  obtain ⟨ad, cap, hx1, g1, g2, g3, g4⟩ := hs.ev hx
  have hb : BOk I w β e size c := hs.heap _ hm.mem
  have hmin : Nat.min m len = min m len := rfl
  rcases Nat.eq_zero_or_pos (min m len) with h0 | h0
  · have hexec : (execOp a.eval ⟨some d, .call { callee := .builtin .copy, args := #[x, y], argTypes := #[t, t2] }, ty, pos, aft, gd⟩).run X.P w = .ok (.value (goInt ((0 : Nat) : Int))) w := by
      have hr : (Builtin.copy_ #[t, t2] ty #[.slice ad len cap, .slice a2 m c2]).run X.P w = .ok (goInt ((0 : Nat) : Int)) w := by
        cases ad <;> cases a2 <;> simp [Builtin.copy_, run_underlying ht.h, sizeOf, typeInfo, h1, Builtin.lenOf, hmin, h0, Builtin.firstCells, loadCells, loadCellsFrom, storeCells]
      simp only [execOp, resolve, invoke, builtin, Sem.run_bind, Sem.run_pure, Result.andThen_ok, List.map_toArray, List.map_cons, List.map_nil, hx1, hy1, hr]
    refine wp_val hexec ⟨Same.refl _ _, _, rfl, ?_⟩
    have hb' : BOk I w β e size c' := by
      refine ⟨by rw [hu.hlen]; exact hb.1, fun hp => ?_⟩
      obtain ⟨cs, k1, k2, k3⟩ := hb.2 hp
      refine ⟨cs, k1, k2, fun e' he' f hf => ?_⟩
      rw [hu.hlen] at he'
      rw [hu.hold e' f he' hf (by omega)]
      exact k3 e' he' f hf
    have := hs.turn (w' := w) hm (Same.refl _ _) hb' fun b hb => ⟨.inl hb, by
      have := hs.own b ⟨_, hm.mem, hb⟩
      omega⟩
    rw [h0]
    exact this.put (blt_lt hd) rfl
  · have hpos : 0 < β.s := by have := hb.1; omega
    have hown := hs.own β.b ⟨_, hm.mem, hpos, rfl⟩
    obtain ⟨g, o, ha, hc⟩ := hy2 (by omega)
    obtain ⟨news, v1, v2, v3, v4⟩ := list_cells (n := min m len) (get := get) fun e' he' f hf => hc e' (by omega) f hf
    obtain ⟨cs, hg, hfit, hb'⟩ := hb.copy hu (by omega) h0 v1 v4 hown.1
    have hfc := run_firstCells_some (P := X.P) w i.size (min m len) _ m c2 news (by rw [v1, h3]) v2
    have hst := run_storeCells_at X.P β.b (β.o + r * size) e news 0 cs w hg (by simpa using hfit) v3
    simp only [Nat.add_zero] at hst
    have had := g4 (by omega)
    have hrun : (Builtin.copy_ #[t, t2] ty #[.slice ad len cap, .slice a2 m c2]).run X.P w = .ok (goInt ((min m len : Nat) : Int)) (w.setRow β.b (splice cs (β.o + r * size) news)) := by
      rw [had, ha]
      simp [Builtin.copy_, run_underlying ht.h, sizeOf, typeInfo, h1, Builtin.lenOf, hmin, hfc, hst, splice]
    have hexec : (execOp a.eval ⟨some d, .call { callee := .builtin .copy, args := #[x, y], argTypes := #[t, t2] }, ty, pos, aft, gd⟩).run X.P w = .ok (.value (goInt ((min m len : Nat) : Int))) (w.setRow β.b (splice cs (β.o + r * size) news)) := by
      simp only [execOp, resolve, invoke, builtin, Sem.run_bind, Sem.run_pure, Result.andThen_ok, List.map_toArray, List.map_cons, List.map_nil, hx1, hy1, hrun]
    have hsame : Same w (w.setRow β.b (splice cs (β.o + r * size) news)) (HL.one β e size c).fp := (Same.setRow w β.b _).mono fun i hi => ⟨hpos, hi⟩
    refine wp_val hexec ⟨hsame.mono fun i hi => fps_one hi, _, rfl, ?_⟩
    exact (hs.turn hm hsame hb' fun b hb => ⟨.inl hb, by rw [hb.2]; simpa using hown.2.2⟩).put (blt_lt hd) rfl
end
/-- what copy makes of a list: entries from r on, at most len, become ys -/
def cpl {α : Type} [El α] (xs : List α) (r len : Nat) (ys : List α) : List α := (List.range xs.length).map fun i => if r ≤ i ∧ i < r + min ys.length len then ys.getD (i - r) El.d else xs.getD i El.d
theorem cpl_length {α : Type} [El α] (xs : List α) (r len : Nat) (ys : List α) : (cpl xs r len ys).length = xs.length := by simp [cpl]
theorem cpl_getD {α : Type} [El α] {xs ys : List α} {r len i : Nat} (h : i < xs.length) : (cpl xs r len ys).getD i El.d = if r ≤ i ∧ i < r + min ys.length len then ys.getD (i - r) El.d else xs.getD i El.d := by
  simp [cpl, List.getD_eq_getElem?_getD, h]
theorem cpy_row {α : Type} [El α] {size : Nat} {xs ys : List α} {r len m : Nat} {get : Nat → Nat → D} (hl : r + len ≤ xs.length) (hm : m = ys.length) (hg : ∀ e f, e < m → f < size → get e f = El.enc (ys.getD e El.d) f) :
    Cpy size (row xs) r (min m len) get (row (cpl xs r len ys)) := by
  subst hm
  refine ⟨by simp [cpl_length], fun e f he hf => ?_, fun e f he hf h => ?_⟩
  · rw [hg e f (by omega) hf]
    simp only [row]
    rw [cpl_getD (by omega), if_pos ⟨by omega, by omega⟩, Nat.add_sub_cancel_left]
  · simp only [row]
    rw [cpl_getD (by simpa using he), if_neg (by omega)]
end Go.Proofs.Ytgkcmjmofcekmaa.Sx
