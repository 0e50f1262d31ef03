/- Proved: weirkeep.ManyAlike answers true for every number of workers and every list of jobs, in every run of its goroutines (ManyAlikeUptoSaid). Its conditions are the given bound on the sizes of the arguments alone. -/
import Derived.Test.YtkfmphlnpmemdaaRows
import Derived.Test.YtkfmphlnpmemdaaQYK
import Derived.Test.YtkfmphlnpmemdaaQPC
import Derived.Test.YtkfmphlnpmemdaaQFrame
import Derived.Conc.LeavingOf
import Derived.JoinedCond
set_option linter.unusedVariables false
namespace Go.Proofs.Ytkfmphlnpmemdaa
open Go Go.ChangeShapes Go.WideShapes Go.ChangeAt Go.RowKit Go.Proofs.Ytkfmphlnpmemdaa.Sx
theorem own_ : ownKnob Try.prog.godebug = none := by kernel_rfl
theorem laidOut_ : laidOutB Try.prog = true := by kernel_rfl
set_option maxRecDepth 100000 in
theorem many_runs {H : Type} {enc : TypeId × Value → H} (W : World) (base : Nat) (args : Array Value) (ds gs : List (DataW H)) (before : List MemPlace)
    (hval0 : ∀ (j : Nat) t v, Try.f3.params[j]? = some t → args[j]? = some v → Value.okWide Try.prog W .any base t v) (hW : DataW.Whole enc Try.prog Try.f3.params.toList Rows.manyAlikeSpec.vars false W args.toList ds gs before) (hk_ : Rows.uptoSmall H (ds ++ gs) = true) :
    ∃ N last o w' t', runNT Try.prog (N + 1) (Conc.solo (Conc.G (Frame.enter Try.prog 3 args .normal) []) W) #[] = (.ended o w', t') ∧ runN Try.prog N (Conc.solo (Conc.G (Frame.enter Try.prog 3 args .normal) []) W) = .next last ∧ step Try.prog last = .ended o w' ∧
      Conc.Good Try.prog (fun v W' => Rows.manyAlikeSpec.post enc Try.prog Try.f3 false true false false W args v W') last o w' t' := by
  have hval : ∀ (j : Nat) t v, Try.f3.params[j]? = some t → args[j]? = some v → Value.okWide Try.prog W .any base t v := hval0
  have hW1 := hW
  obtain ⟨p, q, hA0, hV, hbe, hfz, hnd⟩ := hW
  have hA : DataW.TrodAll enc Try.prog W 0 (fun _ => true) true Try.f3.params.toList args.toList ds p := hA0
  have hA2 := hA
  rw [Try.params3] at hA hval
  obtain ⟨v0, v1, v2, v3, d0, d1, d2, d3, p0, p1, p2, p3, rfl, rfl, hp, h0, h1, h2, h3⟩ := trodAll_four hA
  have hgs : gs = [] := (trodVars_none hV).1
  obtain ⟨g0, rfl, _, _, w0⟩ := open_int Try.underlying3 (hval 0 3 v0 rfl rfl) h0
  obtain ⟨g1, rfl, _, _, w1⟩ := open_int Try.underlying3 (hval 1 3 v1 rfl rfl) h1
  obtain ⟨x2, l2, c2, e2⟩ := okWide_slice Try.underlying22 (hval 2 22 v2 rfl rfl)
  subst e2
  obtain ⟨n2, q2⟩ := h2
  obtain ⟨g2, r2, in2⟩ := rd_deedLL Try.underlying22 Try.underlying29 (by kernel_rfl) Try.underlying28 (by kernel_rfl) (by kernel_rfl) Try.underlying3 Try.underlying9 rfl rfl rfl rfl rfl q2
  obtain ⟨z1, z2⟩ := deedLL_bulk Try.underlying22 Try.underlying29 (by kernel_rfl) q2 r2
  have zs := bulk_small hk_ (d := d2) (by simp)
  obtain ⟨g3, rfl, _, _, w3⟩ := open_int Try.underlying3 (hval 3 3 v3 rfl rfl) h3
  have hT : weirkeep_ManyAlike_F g0 g1 g2 g3 = some true := manyAlike_true g0 g1 g2 g3 (by omega) fun d hd => by
    obtain ⟨i, hi, rfl⟩ := List.mem_iff_getElem.1 hd
    have := z2 i hi
    have e : g2.getD i [] = g2[i] := by simp [List.getD_eq_getElem?_getD, hi]
    rw [e] at this
    omega
  obtain ⟨N, last, o, w', t', k1, k2, k3, k4⟩ := many_ends (W := W) (args := [.int .i64 g0, .int .i64 g1, .slice x2 l2 c2, .int .i64 g3]) (ds := [.v (.int .i64 g0), .v (.int .i64 g1), slD g2, .v (.int .i64 g3)]) ⟨_, _, rfl, rfl, _, _, rfl, rfl, _, _, rfl, r2, _, _, rfl, rfl, rfl⟩ (Y.weirkeep_ManyAlike_spec g0 g1 g2 g3 hT)
  refine ⟨N, last, o, w', t', k1, k2, k3, k4.mono fun v hv => ?_⟩
  obtain ⟨rfl, e1, e2, e3, e4, e5⟩ := hv
  exact law_post laidOut_ hW1 hA2 (fun x hx => by rw [hbe]; exact List.mem_append_left _ hx) ⟨e1, e2, e3, e4, e5⟩ (by kernel_rfl) rfl Try.underlying4 rfl (by subst hgs; rfl)
set_option maxRecDepth 100000 in
theorem many_lifted (os : Os) (started : os.Started) (H : Type) (enc : TypeId × Value → H) (F : Stop.Interp) :
    ReturnsInLeavingWide {} Try.checked os 3 .any ((Rows.OpenSpec.upto Rows.manyAlikeSpec).pre6 enc Try.prog Try.f3 Rows.manyAlikeUptoRow.domain false) (((Rows.OpenSpec.upto Rows.manyAlikeSpec).at F).post enc Try.prog Try.f3 false true false false) := by
  refine returnsInLeavingWide_of_good own_ started
    (OpenSpec.witness (enc := enc) (C := Try.checked) (s := Rows.OpenSpec.upto Rows.manyAlikeSpec) (k := Rows.uptoSmall) rfl false ⟨#[], #[.int .i64 0, .int .i64 0, .slice none 0 0, .int .i64 0], []⟩ 8 (by kernel_rfl) (by kernel_rfl) (by kernel_rfl)
      (x := ([.lit (.int .i64 0), .lit (.int .i64 0), .nil, .lit (.int .i64 0)], [], [])) (by kernel_rfl) rfl (by kernel_rfl)) ?_
  intro w tape i _ _ _ hok hpre _
  obtain ⟨_, _, _, fn', hfn', _, _, _, _, hval⟩ := hok
  have e : fn' = Try.f3 := Option.some.inj (hfn'.symm.trans Try.func3)
  subst e
  obtain ⟨ds, gs, before, hw, hc, hkk⟩ := (OpenSpec.pre_some (s := Rows.OpenSpec.upto Rows.manyAlikeSpec) (k := Rows.uptoSmall) rfl _ _ _ _).1 hpre.1
  have hw' := DataW.Whole.of_heap (w' := w.forCall tape i) (by rfl) hw
  obtain ⟨M, last, o, w', t', h1, h2, h3, h4⟩ := many_runs (enc := enc) (w.forCall tape i) w.heap.size i.args ds gs before hval hw' hkk
  exact ⟨M, last, o, w', t', h1, h2, h3, h4.mono fun v hp => ChangeSpec.post_blind hp⟩
theorem holds_leaving {p : Pinned} {s : OpenSpec} {c : OpenClaim} (f : FuncId) (fn : Func)
    (hn : c.program = p.name) (hs : c.sum = p.sum) (hsp : c.spec = s.name)
    (hstart : c.start = .entering) (hout : c.outside = []) (hin : c.inits = []) (hun : c.under = none) (hi4 : c.initsInPlace = [] ∧ c.initsUnfollowed = false ∧ c.initsRecurse = false ∧ c.initsNamed = [] ∧ c.initsPassed = []) (hnb : c.noBlocks = false) (hlv : c.leaving = true) (hfo : c.followed = none) (hnar : c.narrowed = s.cond.isSome) (hstill : c.still = false)
    (hfn : p.checked.prog.funcNamed c.func = some f) (hf : p.checked.prog.funcs[f]? = some fn)
    (closed : joinedFacts p.checked.prog f fn s.bare c = true)
    (hinst : fn.isInstance p.checked.prog c.origin c.targs) (hwrap : fn.isWrapper p.checked.prog c.wrapper c.mainSum)
    (h : ∀ os : Os, os.Started → ∀ (H : Type) (enc : TypeId × Value → H), (∀ a b, enc a = enc b → a = b) → ∀ F : Stop.Interp,
      ReturnsInLeavingWide c.assume p.checked os f .any (c.pre enc p.checked.prog fn s) ((s.at F).post enc p.checked.prog fn c.apart c.fresh c.handsOn c.again)) : c.holds p s := by
  simp only [joinedFacts, Bool.and_eq_true, beq_iff_eq, Array.all_eq_true_iff_forall_mem, List.all_eq_true, decide_eq_true_eq] at closed
  obtain ⟨⟨⟨⟨⟨⟨⟨⟨⟨⟨⟨⟨⟨⟨⟨⟨⟨⟨⟨⟨⟨⟨⟨⟨⟨⟨⟨⟨⟨⟨⟨k1, k2⟩, k3⟩, k4⟩, k5⟩, k6⟩, k7⟩, k8⟩, k9⟩, k10⟩, k11⟩, k12⟩, k13⟩, k14⟩, k15⟩, k16⟩, k17⟩, k17b⟩, k18⟩, k19⟩, k20⟩, k21⟩, k22⟩, k23⟩, k23b⟩, k24⟩, k24b⟩, k24c⟩, k25⟩, k26⟩, k27⟩, k28⟩ := closed
  have hq : ∀ os : Os, Stop.quiet p.checked.prog os := fun os k hk => by rw [k9] at hk; cases hk
  refine ⟨k1, hn, hs, hsp, k2, k3, by unfold OpenClaim.startFits; rw [hstart]; exact k24, by unfold OpenClaim.startTold; rw [hstart]; exact ⟨hin, hun, hi4⟩, f, fn, hfn, hf, ⟨k4, k19⟩, (fun hb => by rw [hnb] at hb; cases hb), by unfold OpenClaim.namedList; rw [hfo]; exact k5, hinst, hwrap,
    k6.trans k7.symm, ⟨k8.trans k9.symm, by unfold Program.envWorded; rw [k9]; rfl, k23b⟩, k10, k11, k12, k13, k14, ⟨k15, k27, k28⟩, ⟨k16, k20⟩, ⟨k17, k21, k25, k26⟩, ⟨k22, k24b, k24c, k17b⟩, (by rw [hout, hnar]; cases hsh : c.shortTexts with | none => simp | some _ => rw [hsh] at k23; cases k23), fun n hn' => varReadable_some (k18 n hn'),
    ⟨_, by unfold OpenClaim.world; rw [hout, hstart]; exact WideRow.started_initial, hq _⟩, [], by unfold OpenClaim.lists; rw [hfo], fun os st _ H enc inj => ?_⟩
  have st' : os.Started := by unfold OpenClaim.world at st; rw [hout, hstart] at st; exact st
  rw [OpenClaim.post_not_still hstill]
  unfold OpenClaim.form
  rw [hstart, k6]
  intro F
  have e1 : c.okInput = Input.okWide := by unfold OpenClaim.okInput; rw [hnb]
  have e2 : c.atReturn p.checked.prog = leavingAtReturn p.checked.prog := by unfold OpenClaim.atReturn; rw [hlv]
  have e3 : c.always p.checked.prog [] = nothingAlways := by unfold OpenClaim.always; rw [hfo]
  have e4 : s.post enc p.checked.prog fn F c.outside c.apart c.fresh c.handsOn c.again = (s.at F).post enc p.checked.prog fn c.apart c.fresh c.handsOn c.again := by rw [hout]; rfl
  rw [e1, e2, e3]
  show ReturnsInOpen _ _ _ _ _ _ _ _ (s.post enc p.checked.prog fn F c.outside c.apart c.fresh c.handsOn c.again) _ _
  rw [e4]
  exact h os st' H enc inj F k24
theorem manyAlikeUpto_holds : Rows.ManyAlikeUptoSaid :=
  holds_leaving 3 Try.f3 rfl rfl rfl rfl rfl rfl rfl ⟨rfl, rfl, rfl, rfl, rfl⟩ rfl rfl rfl rfl rfl (by kernel_rfl) Try.func3 (by kernel_rfl)
    (of_decide_eq_true (by kernel_rfl)) (by unfold Func.isWrapper; rw [if_neg (by decide +kernel)]; exact ⟨rfl, rfl⟩)
    (fun os started H enc _ F => many_lifted os started H enc F)
end Go.Proofs.Ytkfmphlnpmemdaa
