import Derived.Test.YtkfmphlnpmemdaaQMbC
set_option linter.unusedVariables false
set_option linter.unusedSimpArgs false
namespace Go.Proofs.Ytkfmphlnpmemdaa.Sx
open Go Go.Conc Go.ConcN Go.Conc.Lib Go.RowKit Go.ConcR.Gen Go.ConcN.Gen
open Go.ConcR (KK wgBlock WgAt stA smA rd wr mk DC0)
noncomputable def body4 : Code := Try.f4.body.getD .skip
noncomputable def t11 : Code := match body4 with | .seq _ (.seq _ (.seq _ (.seq _ (.seq _ (.seq _ t))))) => t | _ => .skip
noncomputable def ops11 : Array Oper := match t11 with | .seq (.region _ o _) _ => o | _ => #[]
noncomputable def ops12 : Array Oper := match t11 with | .seq _ (.seq (.seq (.region _ o _) _) _) => o | _ => #[]
noncomputable def lh : Code := match t11 with | .seq _ (.seq (.seq _ (.block _ (.loop c))) _) => c | _ => .skip
noncomputable def ops17 : Array Oper := match t11 with | .seq _ (.seq _ (.seq (.region _ o _) _)) => o | _ => #[]
noncomputable def ops18 : Array Oper := match t11 with | .seq _ (.seq _ (.seq _ (.seq (.region _ o _) _))) => o | _ => #[]
theorem t11_eq : t11 = .seq (.region 11 ops11 false) (.seq (.seq (.region 12 ops12 false) (.block 2 (.loop lh))) (.seq (.region 17 ops17 false) (.seq (.region 18 ops18 false) .ret))) := rfl
noncomputable def ops13 : Array Oper := match lh with | .seq (.region _ o _) _ => o | _ => #[]
noncomputable def ops14 : Array Oper := match lh with | .seq _ (.seq _ (.seq (.block _ (.seq (.region _ o _) _)) _)) => o | _ => #[]
noncomputable def ops15 : Array Oper := match lh with | .seq _ (.seq _ (.seq (.block _ (.seq _ (.region _ o _))) _)) => o | _ => #[]
noncomputable def ops16 : Array Oper := match lh with | .seq _ (.seq _ (.seq _ (.region _ o _))) => o | _ => #[]
theorem lh_eq : lh = .seq (.region 13 ops13 false) (.seq (.cond (.tmp 33) .skip (.exit 2)) (.seq (.block 3 (.seq (.region 14 ops14 false) (.region 15 ops15 false))) (.region 16 ops16 false))) := rfl
theorem r13 : List.range ops13.size = [0] := by kernel_rfl
theorem r14 : List.range ops14.size = [0] := by kernel_rfl
theorem r15 : List.range ops15.size = [0, 1] := by kernel_rfl
theorem r16 : List.range ops16.size = [0, 1] := by kernel_rfl
theorem p13_0 : ops13[0]? = some { dst := some 33, op := .binOp .lss 3 (.tmp 32) (.tmp 31) 3, type := 4, pos := "many.go:23", after := #[], guard := none } := by kernel_rfl
theorem p14_0 : ops14[0]? = some { dst := some 34, op := .call { callee := .value (.func 9), args := #[.tmp 9, .const (.int .i64 1)], argTypes := #[52, 3] }, type := 0, pos := "many.go:24", after := #[], guard := none } := by kernel_rfl
theorem p15_0 : ops15[0]? = some { dst := some 35, op := .makeFunc (.func 10) #[] #[.tmp 7, .tmp 3, .tmp 6, .tmp 9], type := 1, pos := "many.go:25", after := #[], guard := none } := by kernel_rfl
theorem p15_1 : ops15[1]? = some { dst := none, op := .go { callee := .value (.tmp 35), args := #[], argTypes := #[] }, type := 0, pos := "many.go:25", after := #[⟨0, .data⟩], guard := none } := by kernel_rfl
theorem p16_0 : ops16[0]? = some { dst := some 36, op := .binOp .add 3 (.tmp 32) (.const (.int .i64 1)) 3, type := 3, pos := "many.go:23", after := #[], guard := none } := by kernel_rfl
theorem p16_1 : ops16[1]? = some { dst := some 32, op := .move (.tmp 36), type := 3, pos := "many.go:23", after := #[⟨0, .data⟩], guard := none } := by kernel_rfl
structure Rg (hands : Int) (v3 v6 v7 v9 : Value) (a : Act) : Prop where
  sz : a.tmps.size = 39
  df : a.defers = []
  g3 : a.eval (.tmp 3) = v3
  g6 : a.eval (.tmp 6) = v6
  g7 : a.eval (.tmp 7) = v7
  g9 : a.eval (.tmp 9) = v9
  g31 : a.eval (.tmp 31) = .int .i64 hands
theorem eval_ne {a : Act} {k j : Nat} {v : Value} (h : k ≠ j) : (a.put (some k) v).eval (.tmp j) = a.eval (.tmp j) := by
  simp [Act.eval, Act.put, Array.getElem?_setIfInBounds_ne h]
theorem eval_eq {a : Act} {k : Nat} {v : Value} (h : k < a.tmps.size) : (a.put (some k) v).eval (.tmp k) = v := by
  simp [Act.eval, Act.put, h]
theorem size_put {a : Act} {k : Nat} {v : Value} : (a.put (some k) v).tmps.size = a.tmps.size := by simp [Act.put]
theorem Rg.put {hands : Int} {v3 v6 v7 v9 v : Value} {a : Act} (h : Rg hands v3 v6 v7 v9 a) {k : Nat} (hk : 31 < k) : Rg hands v3 v6 v7 v9 (a.put (some k) v) :=
  ⟨size_put.trans h.sz, h.df, (eval_ne (by omega)).trans h.g3, (eval_ne (by omega)).trans h.g6, (eval_ne (by omega)).trans h.g7, (eval_ne (by omega)).trans h.g9, (eval_ne (by omega)).trans h.g31⟩
theorem lss_run {a : Act} {w : World} {x y : Int} {ty : TypeId} {pos : String} {aft : Array Edge} (h : a.eval (.tmp 32) = .int .i64 x) (h' : a.eval (.tmp 31) = .int .i64 y) :
    (execOp a.eval ⟨some 33, .binOp .lss 3 (.tmp 32) (.tmp 31) 3, ty, pos, aft, none⟩).run Try.prog w = .ok (.value (.bool (decide (x < y)))) w ∧ (execOp a.eval ⟨some 33, .binOp .lss 3 (.tmp 32) (.tmp 31) 3, ty, pos, aft, none⟩).events Try.prog w #[] = #[] := by
  have q32 : a.tmps[32]?.getD undef = .int .i64 x := by simpa [Act.eval] using h
  have q31 : a.tmps[31]?.getD undef = .int .i64 y := by simpa [Act.eval] using h'
  constructor
  · simp [execOp, q31, q32, go_sem, Try.underlying3]
  · simp [execOp, q31, q32, go_sem, Try.underlying3]
theorem inc_run {a : Act} {w : World} {x : Nat} {ty : TypeId} {pos : String} {aft : Array Edge} (h : a.eval (.tmp 32) = .int .i64 (x : Int)) (hx : x < 100) :
    (execOp a.eval ⟨some 36, .binOp .add 3 (.tmp 32) (.const (.int .i64 1)) 3, ty, pos, aft, none⟩).run Try.prog w = .ok (.value (.int .i64 ((x + 1 : Nat) : Int))) w ∧ (execOp a.eval ⟨some 36, .binOp .add 3 (.tmp 32) (.const (.int .i64 1)) 3, ty, pos, aft, none⟩).events Try.prog w #[] = #[] := by
  have e : IntKind.i64.wrap ((x : Int) + 1) = ((x + 1 : Nat) : Int) := by rw [IntWalk.i64_in _ (by omega)]; omega
  have e1 : a.eval (.const (.int .i64 1)) = .int .i64 1 := rfl
  have q32 : a.tmps[32]?.getD undef = .int .i64 (x : Int) := by simpa [Act.eval] using h
  constructor
  · simp [execOp, q32, go_sem, Try.underlying3, e]
  · simp [execOp, q32, go_sem, Try.underlying3]
theorem move_run {a : Act} {w : World} {d : Option Nat} {x : Operand} {ty : TypeId} {pos : String} {aft : Array Edge} :
    (execOp a.eval ⟨d, .move x, ty, pos, aft, none⟩).run Try.prog w = .ok (.value (a.eval x)) w ∧ (execOp a.eval ⟨d, .move x, ty, pos, aft, none⟩).events Try.prog w #[] = #[] := by
  constructor <;> simp [execOp, go_sem]
theorem func_run {a : Act} {w : World} {v3 v6 v7 v9 : Value} {ty : TypeId} {pos : String} {aft : Array Edge} (h3 : a.eval (.tmp 3) = v3) (h6 : a.eval (.tmp 6) = v6) (h7 : a.eval (.tmp 7) = v7) (h9 : a.eval (.tmp 9) = v9) :
    (execOp a.eval ⟨some 35, .makeFunc (.func 10) #[] #[.tmp 7, .tmp 3, .tmp 6, .tmp 9], ty, pos, aft, none⟩).run Try.prog w = .ok (.value (.func (.func 10) #[] #[v7, v3, v6, v9])) w ∧ (execOp a.eval ⟨some 35, .makeFunc (.func 10) #[] #[.tmp 7, .tmp 3, .tmp 6, .tmp 9], ty, pos, aft, none⟩).events Try.prog w #[] = #[] := by
  have q3 : a.tmps[3]?.getD undef = v3 := by simpa [Act.eval] using h3
  have q6 : a.tmps[6]?.getD undef = v6 := by simpa [Act.eval] using h6
  have q7 : a.tmps[7]?.getD undef = v7 := by simpa [Act.eval] using h7
  have q9 : a.tmps[9]?.getD undef = v9 := by simpa [Act.eval] using h9
  constructor <;> simp [execOp, go_sem, q3, q6, q7, q9]
theorem go_run {a : Act} {w : World} {v3 v6 v7 v9 : Value} {pos : String} {aft : Array Edge} (h : a.eval (.tmp 35) = .func (.func 10) #[] #[v7, v3, v6, v9]) :
    (execOp a.eval ⟨none, .go { callee := .value (.tmp 35), args := #[], argTypes := #[] }, 0, pos, aft, none⟩).run Try.prog w = .ok (.spawn (call10 v7 v3 v6 v9)) w ∧ (execOp a.eval ⟨none, .go { callee := .value (.tmp 35), args := #[], argTypes := #[] }, 0, pos, aft, none⟩).events Try.prog w #[] = #[] := by
  have q35 : a.tmps[35]?.getD undef = .func (.func 10) #[] #[v7, v3, v6, v9] := by simpa [Act.eval] using h
  constructor <;> simp [execOp, go_sem, q35, call10]
def addArgs (Wg : Nat) : Array Value := #[.pointer (some ⟨Wg, 0, none⟩), .int .i64 1, undef, undef, undef, undef, undef, undef, undef, undef, undef, undef, undef, undef, undef, undef, undef, undef, undef, undef, undef, undef, undef, undef, undef, undef, undef, undef, undef, undef, undef, undef, undef, undef, undef, undef, undef, undef, undef, undef, undef, undef, undef, undef, undef, undef, undef, undef, undef, undef, undef, undef, undef, undef, undef, undef, undef, undef, undef, undef, undef, undef, undef, undef, undef, undef, undef, undef, undef, undef, undef, undef, undef, undef, undef, undef, undef, undef, undef, undef, undef, undef, undef, undef, undef, undef, undef, undef, undef, undef, undef, undef, undef, undef, undef, undef, undef, undef, undef, undef, undef, undef, undef, undef, undef, undef, undef, undef, undef, undef, undef, undef, undef, undef, undef, undef, undef]
theorem addArgs_eq (Wg : Nat) : #[.pointer (some ⟨Wg, 0, none⟩), .int .i64 1] ++ Array.replicate ((addFn lk).ntmps - 2) undef = addArgs Wg := by kernel_rfl
theorem Act.eval_const (a : Act) (v : Value) : a.eval (.const v) = v := rfl
section
variable {A O L : Nat → Prop} {ws : World} {c : Ph0} {n v : Nat} {tg : Tg} {Post : Value → World → Prop} {jobs : List (List Deed)}
theorem Cw.move {g g' : Goroutine} {σ : Gh} {w : World} (hJ : Cw A O ws 0 (Rp c tg n L v) σ w) (hs : g.status = .running) (h : ∀ w₁, stepG Try.prog true g w₁ = .go g' w₁ #[])
    (next : ∀ σ w, Cw A O ws 0 (Rp c tg n L v) σ w → CLife (many Try.prog) Post σ g' w) : CLife (many Try.prog) Post σ g w :=
  Cw.goes (Stop := fun g _ => g = g') (fun σ g w hJ hs => by have e : g = g' := hs w fun h => h; rw [e]; exact next σ w hJ) (m := 1) (y_move hs h (Goes.stop fun _ _ => rfl)) hJ
theorem Cw.val {b : Frame} {a : Act} {all : Array Oper} {i : Nat} {rest : List Nat} {k : List Item} {cs : List Frame} {o : Oper} {x : Value} {σ : Gh} {w : World} (hJ : Cw A O ws 0 (Rp c tg n L v) σ w) (ho : all[i]? = some o) (hw : Region.wanted o (yielded all a.tmps) = true) (hk : b.kind ≠ .early)
    (h : ∀ w : World, (execOp a.eval o).run Try.prog w = .ok (.value x) w ∧ (execOp a.eval o).events Try.prog w #[] = #[])
    (next : ∀ σ w, Cw A O ws 0 (Rp c tg n L v) σ w → CLife (many Try.prog) Post σ (G (b.at (a.put o.dst x) (.inRegion all rest :: k)) cs) w) : CLife (many Try.prog) Post σ (G (b.at a (.inRegion all (i :: rest) :: k)) cs) w :=
  hJ.move rfl (fun w₁ => by rw [stepG_value ho hw hk (h w₁).1, listed_nil (h w₁).2]) next
variable {hands : Nat} {v3 v6 v7 : Value} {b : Frame} {k2 : List Item} {cs : List Frame}
set_option maxRecDepth 20000 in
theorem hands_life (hN : jobs.length = c.N) (hpost : c.post = postW jobs) (hall : ∀ k, k < jobs.length → ∃ out, many_do_F (jobs.getD k El.d) = some out) (hh : hands ≤ 8) (hk : b.kind ≠ .early)
    (hargs : RdL (fun b => A b ∨ L b) c.w0 (argsW c jobs) [v7, v3, v6, .pointer (some ⟨c.Wg, 0, none⟩)]) (hA : Rely A (fun _ => False) c.w0 ws) (hsz : ∀ b, A b ∨ L b → b < c.w0.heap.size)
    (fin : ∀ σ w a, Cw A O ws 0 (Rp c .opn (c.f0 + hands) L hands) σ w → Rg hands v3 v6 v7 (.pointer (some ⟨c.Wg, 0, none⟩)) a → CLife (many Try.prog) Post σ (G (b.at a k2) cs) w) :
    ∀ (m j : Nat), j + m = hands → ∀ σ w a, Cw A O ws 0 (Rp c .opn (c.f0 + j) L j) σ w → Rg hands v3 v6 v7 (.pointer (some ⟨c.Wg, 0, none⟩)) a → a.eval (.tmp 32) = .int .i64 (j : Int) →
      CLife (many Try.prog) Post σ (G (b.at a (.code lh :: .inLoop lh :: .inBlock 2 :: k2)) cs) w := by
  intro m
  induction m with
  | zero =>
    intro j hj σ w a hJ hR h32
    rw [lh_eq]
    refine hJ.move rfl (fun _ => stepG_seq) fun σ w hJ => hJ.move rfl (fun _ => stepG_region) fun σ w hJ => ?_
    rw [r13]
    refine hJ.val p13_0 rfl hk (fun w => lss_run h32 hR.g31) fun σ w hJ => hJ.move rfl (fun _ => stepG_region_end) fun σ w hJ => hJ.move rfl (fun _ => stepG_seq) fun σ w hJ => ?_
    have hcnd : (a.put (some 33) (.bool (decide ((j : Int) < hands)))).eval (.tmp 33) = .bool false := by
      rw [eval_eq (by rw [hR.sz]; omega), decide_eq_false (by omega)]
    refine hJ.move rfl (fun _ => stepG_cond hcnd) fun σ w hJ => hJ.move rfl (fun _ => stepG_exit rfl) fun σ w hJ => ?_
    have e : j = hands := by omega
    subst e
    exact fin _ _ _ hJ (hR.put (by omega))
  | succ m ih =>
    intro j hj σ w a hJ hR h32
    have e0 : (Item.code lh :: Item.inLoop lh :: Item.inBlock 2 :: k2) = Item.code (.seq (.region 13 ops13 false) (.seq (.cond (.tmp 33) .skip (.exit 2)) (.seq (.block 3 (.seq (.region 14 ops14 false) (.region 15 ops15 false))) (.region 16 ops16 false)))) :: Item.inLoop lh :: Item.inBlock 2 :: k2 := by rw [← lh_eq]
    rw [e0]
    refine hJ.move rfl (fun _ => stepG_seq) fun σ w hJ => hJ.move rfl (fun _ => stepG_region) fun σ w hJ => ?_
    rw [r13]
    refine hJ.val p13_0 rfl hk (fun w => lss_run h32 hR.g31) fun σ w hJ => hJ.move rfl (fun _ => stepG_region_end) fun σ w hJ => hJ.move rfl (fun _ => stepG_seq) fun σ w hJ => ?_
    have hcnd : (a.put (some 33) (.bool (decide ((j : Int) < hands)))).eval (.tmp 33) = .bool true := by
      rw [eval_eq (by rw [hR.sz]; omega), decide_eq_true (by omega)]
    refine hJ.move rfl (fun _ => stepG_cond hcnd) fun σ w hJ => hJ.move rfl (fun _ => stepG_skip) fun σ w hJ => hJ.move rfl (fun _ => stepG_seq) fun σ w hJ => hJ.move rfl (fun _ => stepG_block) fun σ w hJ => hJ.move rfl (fun _ => stepG_seq) fun σ w hJ => hJ.move rfl (fun _ => stepG_region) fun σ w hJ => ?_
    rw [r14]
    have hR1 := hR.put (v := .bool (decide ((j : Int) < hands))) (k := 33) (by omega)
    have h32' : (a.put (some 33) (.bool (decide ((j : Int) < hands)))).eval (.tmp 32) = .int .i64 (j : Int) := (eval_ne (by omega)).trans h32
    generalize a.put (some 33) (.bool (decide ((j : Int) < hands))) = a1 at *
    refine CLife.ok rfl fun σ₁ w₁ henv t hok => ?_
    replace hJ := hJ.env rsp henv
    obtain ⟨_, st, sm, _, _, _, hw, _⟩ := rp_mode hJ hok
    have e : (#[Operand.tmp 9, .const (.int .i64 1)].map a1.eval ++ Array.replicate ((addFn lk).ntmps - (#[Operand.tmp 9, .const (.int .i64 1)].map a1.eval).size) undef) = addArgs c.Wg := by
      have e1 : #[Operand.tmp 9, .const (.int .i64 1)].map a1.eval = #[.pointer (some ⟨c.Wg, 0, none⟩), .int .i64 1] := by
        simp [hR1.g9, Act.eval_const]
      rw [e1]; exact addArgs_eq c.Wg
    have hgo : Goes Try.prog true (Rl 52 c.Wg) DC0 (At1 Try.prog true 52 c.Wg (mk .disable) (Ca1 Try.prog 52 c.Wg (G (b.at (a1.put ((ops14[0]?).bind (·.dst)) (.tuple #[])) (.inRegion ops14 [] :: .code (.region 15 ops15 false) :: .inBlock 3 :: .code (.region 16 ops16 false) :: .inLoop lh :: .inBlock 2 :: k2)) cs))) 41
        (G (b.at a1 (.inRegion ops14 [0] :: .code (.region 15 ops15 false) :: .inBlock 3 :: .code (.region 16 ops16 false) :: .inLoop lh :: .inBlock 2 :: k2)) cs) w₁ := by
      refine y_call p14_0 rfl hk rfl wgLib.f_add (nm_add lk) rfl ?_
      rw [e]
      exact addPosY wgLib w₁ ⟨_, _, hw⟩
    refine add_life (fun σ w hJ => ?_) hJ hgo
    rw [p14_0]
    show CLife (many Try.prog) Post σ (G (b.at (a1.put (some 34) (.tuple #[])) _) cs) w
    have hR2 := hR1.put (v := .tuple #[]) (k := 34) (by omega)
    have h32'' : (a1.put (some 34) (.tuple #[])).eval (.tmp 32) = .int .i64 (j : Int) := (eval_ne (by omega)).trans h32'
    generalize a1.put (some 34) (.tuple #[]) = a2 at *
    refine hJ.move rfl (fun _ => stepG_region_end) fun σ w hJ => hJ.move rfl (fun _ => stepG_region) fun σ w hJ => ?_
    rw [r15]
    refine hJ.val p15_0 rfl hk (fun w => func_run hR2.g3 hR2.g6 hR2.g7 hR2.g9) fun σ w hJ => ?_
    have hR3 := hR2.put (v := .func (.func 10) #[] #[v7, v3, v6, .pointer (some ⟨c.Wg, 0, none⟩)]) (k := 35) (by omega)
    have h35 : (a2.put (some 35) (.func (.func 10) #[] #[v7, v3, v6, .pointer (some ⟨c.Wg, 0, none⟩)])).eval (.tmp 35) = .func (.func 10) #[] #[v7, v3, v6, .pointer (some ⟨c.Wg, 0, none⟩)] := eval_eq (by rw [hR2.sz]; omega)
    have h33 : (a2.put (some 35) (.func (.func 10) #[] #[v7, v3, v6, .pointer (some ⟨c.Wg, 0, none⟩)])).eval (.tmp 32) = .int .i64 (j : Int) := (eval_ne (by omega)).trans h32''
    show CLife (many Try.prog) Post σ (G (b.at (a2.put (some 35) _) _) cs) w
    generalize a2.put (some 35) (.func (.func 10) #[] #[v7, v3, v6, .pointer (some ⟨c.Wg, 0, none⟩)]) = a3 at *
    refine spawn_life (jobs := jobs) hN hpost hall (by omega) p15_1 rfl hk (fun w => go_run h35) hargs hA hsz (fun σ w hJ => ?_) hJ
    show CLife (many Try.prog) Post σ (G (b.at a3 _) cs) w
    refine hJ.move rfl (fun _ => stepG_region_end) fun σ w hJ => hJ.move rfl (fun _ => stepG_inBlock) fun σ w hJ => hJ.move rfl (fun _ => stepG_region) fun σ w hJ => ?_
    rw [r16]
    refine hJ.val p16_0 rfl hk (fun w => inc_run h33 (by omega)) fun σ w hJ => ?_
    have hR4 := hR3.put (v := .int .i64 ((j + 1 : Nat) : Int)) (k := 36) (by omega)
    have h36 : (a3.put (some 36) (.int .i64 ((j + 1 : Nat) : Int))).eval (.tmp 36) = .int .i64 ((j + 1 : Nat) : Int) := eval_eq (by rw [hR3.sz]; omega)
    show CLife (many Try.prog) Post σ (G (b.at (a3.put (some 36) _) _) cs) w
    generalize a3.put (some 36) (.int .i64 ((j + 1 : Nat) : Int)) = a4 at *
    refine hJ.val (x := .int .i64 ((j + 1 : Nat) : Int)) p16_1 rfl hk (fun w => by rw [← h36]; exact move_run) fun σ w hJ => hJ.move rfl (fun _ => stepG_region_end) fun σ w hJ => hJ.move rfl (fun _ => stepG_inLoop) fun σ w hJ => ?_
    exact ih (j + 1) (by omega) σ w _ hJ (hR4.put (by omega)) (eval_eq (by rw [hR4.sz]; omega))
end
end Go.Proofs.Ytkfmphlnpmemdaa.Sx
namespace Go.Proofs.Ytkfmphlnpmemdaa.Sx
open Go Go.Conc Go.ConcN Go.Conc.Lib
open Go.ConcR (KK wgBlock WgAt stA smA rd wr mk DC0)
def postR (outs : List Tale) (e : Int) (d : D) (H : List HL) : Prop := d = .tp 2 (nth [slD outs, .v (.int .i64 e)]) ∧ H = []
section
variable {A I0 O0 I O L O' : Nat → Prop} {Post : Value → World → Prop} {w0 ws w : World} {s : St} {a : Act} {c : Ph0} {b : Frame} {k : List Item} {cs : List Frame} {N Ch sn : Nat} {jobs : List (List Deed)} {outs : List Tale}
theorem r18_eq : Code.region 18 ops18 false = .region 18 [{ dst := some 38, op := .load 23 (.tmp 6), type := 23, pos := "many.go:33", after := #[], guard := none }, { dst := some 4, op := .assign (.tmp 38), type := 23, pos := "many.go:33", after := #[⟨0, .data⟩, ⟨0, .phase⟩], guard := none }, { dst := some 5, op := .assign (.const (.int .i64 0)), type := 24, pos := "many.go:33", after := #[⟨1, .chain⟩, ⟨0, .phase⟩, ⟨1, .phase⟩], guard := none }].toArray false := by kernel_rfl
theorem end_step {βr β6 : BK} {b3 b7 : Nat} {σ : Gh} (hP : PhS A Post O0 I0 w0 Ch N sn I s a O jobs βr b3 β6.b b7 c L O' ws) (hZ : Cz A O' ws c L σ w) (hAI : ∀ b, A b → I0 b) (hall : ∀ k, k < jobs.length → many_do_F (jobs.getD k El.d) = some (outs.getD k El.d)) (hlen : outs.length = jobs.length)
    (hN : jobs.length = N) (h6 : BOk I c.w0 β6 23 1 (st1 fun _ => .own βr 6 0 N)) (hb : b.fn = 4) (hk : b.kind ≠ .early) (hf3 : ¬ O0 b3 ∧ ¬ O0 β6.b ∧ ¬ O0 b7) (hfr : 0 < βr.s → ¬ O0 βr.b)
    {a' : Act} (ha : a'.tmps.size = 39) (hd : a'.defers = []) (h6v : a'.eval (.tmp 6) = .pointer (some ⟨β6.b, β6.o, none⟩))
    (hc : ∀ e a' w' O', Y.bodyPost (yR A Post w0 (fps []) I0 O0) Try.f4 (Y.RetY (yR A Post w0 (fps []) I0 O0) (postR outs 0)) e a' w' O' → AfterO Try.prog (mn0 A Post) A b k cs e a' w' O') :
    CLife (many Try.prog) Post σ (G (b.at a' (.code (.seq (.region 18 ops18 false) .ret) :: k)) cs) w := by
  have hR := hP.run
  
  have LI : ∀ b, L b → I0 b ∨ (σ.own 0 b ∧ ¬ O0 b) := fun b hb => by
    rcases (hP.len b).1 hb with h | rfl | rfl | rfl
    · exact (hR.im b h.1).imp id fun h' => ⟨(hZ.lent b hb).1, h'.2⟩
    · exact .inr ⟨(hZ.lent _ hb).1, hf3.1⟩
    · exact .inr ⟨(hZ.lent _ hb).1, hf3.2.1⟩
    · exact .inr ⟨(hZ.lent _ hb).1, hf3.2.2⟩
  have O0s : ∀ b, O0 b → L b ∨ O' b := fun b hb => by
    rcases hP.own b (hR.base.sub b hb).1 with h | h | rfl | ⟨rfl, h⟩
    · exact .inl h
    · exact .inr h
    · exact absurd hb hR.ch0
    · exact absurd hb (hfr h)
  have keyI : ∀ b, A b ∨ L b ∨ (σ.own 0 b ∧ ¬ O' b) → I0 b ∨ (σ.own 0 b ∧ ¬ O0 b) := fun b hb => by
    rcases hb with hb | hb | ⟨hb, hn⟩
    · exact .inl (hAI b hb)
    · exact LI b hb
    · by_cases h0 : O0 b
      · rcases O0s b h0 with h | h
        · exact LI b h
        · exact absurd h hn
      · exact .inr ⟨hb, h0⟩
  have O0o : ∀ b, O0 b → σ.own 0 b := fun b hb => (O0s b hb).elim (fun h => (hZ.lent b h).1) (hZ.own b)
  have stay : ∀ b, b < c.w0.heap.size → A b ∨ L b ∨ O' b → w.heap[b]? = c.w0.heap[b]? := fun b hl hb => by
    rcases hb with hb | hb | hb
    · exact (hZ.rel.block b (Nat.lt_of_lt_of_le hl hP.size) (.inl hb)).trans (hP.old b hl)
    · exact (hZ.lent b hb).2
    · exact (hZ.rel.block b (Nat.lt_of_lt_of_le hl hP.size) (.inr hb)).trans (hP.old b hl)
  have keep0 : ∀ b, O0 b → w.heap[b]? = w0.heap[b]? := fun b hb => (stay b (hR.sat.olt b (hR.base.sub b hb).1) (.inr (O0s b hb))).trans (hR.base.keep b hb)
  have I0s : ∀ b, I0 b → A b ∨ L b := fun b hb => by
    have hI := hR.i0 b hb
    rcases hR.sat.imO hI with h | h
    · exact .inl h
    · exact .inr ((hP.len b).2 (.inl ⟨hI, h⟩))
  have keepI : ∀ b, I0 b → w.heap[b]? = w0.heap[b]? := fun b hb => (stay b (hR.sat.tab.2 b (hR.i0 b hb)).1 ((I0s b hb).imp id .inl)).trans (hR.base.imk b hb)
  obtain ⟨J, hJ⟩ : ∃ J : Nat → Prop, J = fun b => I0 b ∨ (σ.own 0 b ∧ ¬ O0 b) := ⟨_, rfl⟩
  have Jo : ∀ b, J b → A b ∨ σ.own 0 b := fun b hb => by
    rw [hJ] at hb
    rcases hb with hb | hb
    · exact (I0s b hb).imp id fun h => (hZ.lent b h).1
    · exact .inr hb.1
  have ltJ : ∀ b, J b → b < w.heap.size := fun b hb => hZ.lt b (Jo b hb)
  obtain ⟨get, hg, hrow⟩ := hZ.row
  have hcN : c.N = N := hP.hN.symm.trans hN
  have eg : ∀ e, e < N → get e = El.enc (outs.getD e El.d) := fun e he => by
    have h1 := hg e (by omega)
    rw [hP.post] at h1
    obtain ⟨out, h2, h3⟩ := h1
    rw [hall e (by omega)] at h2
    cases h2; exact h3
  rw [hP.row, hcN] at hrow
  have hrow' : BOk J w βr 37 6 ⟨N, get⟩ := hrow.mono (fun b hb => by rw [hJ]; exact keyI b hb) (fun _ _ => rfl) fun _ => rfl
  have p6 : 0 < β6.s := h6.1
  have hL6 : L β6.b := (hP.len _).2 (.inr (.inr (.inl rfl)))
  obtain ⟨u6, q1, q2, q3⟩ := h6.cell (e := 0) (f := 0) (by exact Nat.one_pos) (by exact Nat.one_pos)
  have hu : Rd J w (slD outs) u6 := by
    obtain ⟨ad, cap, rfl, k1, k2, k3, k4⟩ := q3
    refine ⟨ad, cap, by show _ = Value.slice ad outs.length cap; rw [hlen, hN], by rw [hlen, hN]; exact k1, k2, fun h0 => ?_⟩
    rw [hlen, hN] at h0
    have hs : 0 < βr.s := by omega
    refine ⟨βr.b, βr.o + 0 * 6, k4 (by omega), ?_, fun e he f hf => ?_⟩
    · rw [hJ]; exact .inr ⟨by have := hZ.pay (by rw [hP.row]; exact hs); rwa [hP.row] at this, hfr hs⟩
    · have he' : e < N := by rw [hlen, hN] at he; exact he
      obtain ⟨u, r1, r2, r3⟩ := hrow'.cell (e := e) (f := f) he' hf
      refine ⟨u, by rw [← r1]; congr 1, r2, ?_⟩
      have r3 : Rd J w (get e f) u := r3
      rw [eg e he'] at r3
      exact r3
  have hv6 : Rd J w (.rp 1 1 (fun _ _ => slD outs) 0 0) (a'.eval (.tmp 6)) := by
    refine ⟨β6.b, β6.o, h6v.trans rfl, ?_, fun e he f hf => ?_⟩
    · rw [hJ]; exact .inr ⟨(hZ.lent _ hL6).1, hf3.2.1⟩
    · obtain rfl : e = 0 := by omega
      obtain rfl : f = 0 := by omega
      refine ⟨u6, ?_, q2, hu⟩
      rw [← q1]
      exact World.cell?_of_block (w := c.w0) (w' := w) (hZ.lent _ hL6).2
  have nf : ∀ b, ¬ fps [] b := fun b ⟨z, hz, _⟩ => by simp at hz
  have sat : SatY (yR A Post w (fps []) J (σ.own 0)) J ⟨[(6, .rp 1 1 (fun _ _ => slD outs) 0 0)], []⟩ a' w (σ.own 0) := by
    have tb : Tb Try.prog J ⟨[(6, .rp 1 1 (fun _ _ => slD outs) 0 0)], []⟩ w := ⟨noTab J w, fun b hb => ⟨ltJ b hb, nf b⟩⟩
    refine ⟨tb, ⟨ha, hd, fun k d hk => ?_, fun z hz => absurd hz (by simp), List.Pairwise.nil, fun b hb => absurd hb (nf b), fun b hb => ⟨ltJ b hb, .inl hb⟩, fun _ hb => hb, Same.refl _ _⟩,
      fun b hb => absurd hb (nf b), fun b hb => .inl hb, fun b hb => ⟨hb, Jo b hb⟩, fun b hb => hb, fun b hb => hZ.lt b (.inr hb), fun b hb _ => rfl, fun _ _ => rfl, rfl, rfl, rfl, Nat.le_refl _⟩
    have : k = 6 ∧ d = .rp 1 1 (fun _ _ => slD outs) 0 0 := by
      simp only [look] at hk
      cases hq : Nat.beq 6 k with
      | true => rw [hq] at hk; simp at hk; exact ⟨(Nat.eq_of_beq_eq_true hq).symm, hk.symm⟩
      | false => rw [hq] at hk; simp at hk
    obtain ⟨rfl, rfl⟩ := this
    simpa [Act.eval] using hv6
  have hgo : Y.GoC (yR A Post w (fps []) J (σ.own 0)) Try.f4 (Y.RetY (yR A Post w (fps []) J (σ.own 0)) (postR outs 0)) (.seq (.region 18 ops18 false) .ret) [] ⟨[(6, .rp 1 1 (fun _ _ => slD outs) 0 0)], []⟩ := by
    unfold yR
    rw [r18_eq]
    refine Y.GoC.seq (Y.GoC.region ?_)
    refine Y.GoO.pure (Y.ps_loadR (size := 1) (len := 1) (e := 0) (f := 0) (get := fun _ _ => slD outs) rfl (by decide) rfl rfl) ?_
    refine Y.GoO.pure (Y.ps_assign rfl rfl) ?_
    refine Y.GoO.pure (Y.ps_assign rfl rfl) ?_
    refine Y.GoO.nil (Y.GoK.code ?_)
    exact Y.GoC.retL (ds := [slD outs, .v (.int .i64 0)]) Try.results4 (Y.ResL.cons (Y.ResD.tmp rfl) (Y.ResL.cons (Y.ResD.tmp rfl) Y.ResL.nil)) (Take.nil _) ⟨rfl, rfl⟩
  refine cWalk rs0 (hgo.run J a' w (σ.own 0) sat b k cs hb hk fun e a1 w1 O1 q => hc e a1 w1 O1 ?_) rfl hZ.j
  have tr : ∀ v w2, Y.RetY (yR A Post w (fps []) J (σ.own 0)) (postR outs 0) v w2 O1 → Y.RetY (yR A Post w0 (fps []) I0 O0) (postR outs 0) v w2 O1 := fun v w2 hq => by
    obtain ⟨d, H', N2, ⟨hp, rfl⟩, hr, hok, hN2, hfp, hsub, holt, hkeep, himk, e1, e2, e3, e4⟩ := hq
    refine ⟨d, [], fun b => (σ.own 0 b ∧ ¬ O0 b) ∨ N2 b, ⟨hp, rfl⟩, hr.mono (fun b hb => ?_) (fun _ _ => rfl), ⟨fun z hz => absurd hz (by simp), List.Pairwise.nil, fun b hb => absurd hb (nf b)⟩, fun b hb => ?_, fun b hb => absurd hb (nf b), fun b hb => hsub b (O0o b hb), holt,
      fun b hb _ => (hkeep b (O0o b hb) (nf b)).trans (keep0 b hb), fun b hb => (himk b (by show J b; rw [hJ]; exact .inl hb)).trans (keepI b hb), e1.trans (hZ.rel.os.trans (hP.os.trans hR.base.os)), e2.trans (hZ.rel.tape.trans (hP.tape.trans hR.base.tape)), e3.trans (hZ.rel.output.trans (hP.output.trans hR.base.output)),
      Nat.le_trans hR.base.size (Nat.le_trans hP.size (Nat.le_trans hZ.rel.size e4))⟩
    · rcases hb with hb | hb
      · have hb : J b := hb
        rw [hJ] at hb
        exact hb.imp id .inl
      · exact .inr (.inr hb)
    · rcases hb with hb | hb
      · exact ⟨holt b (hsub b hb.1), hsub b hb.1, hb.2⟩
      · obtain ⟨x1, x2, x3⟩ := hN2 b hb
        exact ⟨x1, x2, fun h => x3 (O0o b h)⟩
  cases e <;> first | exact ⟨q.1, fun w₁ h₁ => let ⟨v, r1, r2, r3⟩ := q.2 w₁ h₁; ⟨v, r1, r2, tr v w₁ r3⟩⟩ | exact q.elim
end
end Go.Proofs.Ytkfmphlnpmemdaa.Sx
