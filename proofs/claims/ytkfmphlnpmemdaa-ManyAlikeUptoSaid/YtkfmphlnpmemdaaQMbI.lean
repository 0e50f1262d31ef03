import Derived.Test.YtkfmphlnpmemdaaQMbF
import Derived.Test.YtkfmphlnpmemdaaQDA
set_option linter.unusedVariables false
set_option linter.unusedSimpArgs false
namespace Go.Proofs.Ytkfmphlnpmemdaa.Sx
open Go Go.Conc Go.ConcN Go.Conc.Lib Go.RowKit Go.ConcR.Gen Go.ConcN.Gen
open Go.ConcR (KK wgBlock WgAt stA smA rd wr mk DC0)
def waitArgs (Wg : Nat) : Array Value := #[.pointer (some ⟨Wg, 0, none⟩), undef, undef, undef, undef, undef, undef, undef, undef, undef, undef, undef, undef, undef, undef, undef, undef, undef, undef, undef, undef, undef, undef, undef, undef, undef, undef, undef, undef, undef, undef, undef, undef, undef, undef, undef, undef, undef, undef, undef, undef, undef, undef, undef, undef, undef, undef, undef, undef, undef, undef, undef, undef, undef, undef, undef, undef, undef, undef, undef, undef, undef, undef, undef, undef, undef, undef, undef, undef, undef, undef, undef, undef, undef, undef, undef, undef, undef, undef, undef, undef, undef, undef, undef]
theorem waitArgs_eq (Wg : Nat) : #[.pointer (some ⟨Wg, 0, none⟩)] ++ Array.replicate ((waitFn lk).ntmps - 1) undef = waitArgs Wg := by kernel_rfl
theorem r11 : List.range ops11.size = [0] := by kernel_rfl
theorem r12 : List.range ops12.size = [0, 1] := by kernel_rfl
theorem r17 : List.range ops17.size = [0] := by kernel_rfl
theorem p11_0 : ops11[0]? = some { dst := some 9, op := .alloc 52, type := 0, pos := "many.go:22", after := #[], guard := none } := by kernel_rfl
theorem p12_0 : ops12[0]? = some { dst := some 31, op := .move (.tmp 0), type := 3, pos := "many.go:23", after := #[], guard := none } := by kernel_rfl
theorem p12_1 : ops12[1]? = some { dst := some 32, op := .move (.const (.int .i64 0)), type := 3, pos := "many.go:23", after := #[], guard := none } := by kernel_rfl
theorem p17_0 : ops17[0]? = some { dst := some 37, op := .call { callee := .value (.func 13), args := #[.tmp 9], argTypes := #[52] }, type := 0, pos := "many.go:32", after := #[], guard := none } := by kernel_rfl
section
variable {A I0 O0 I O L O' : Nat → Prop} {Post : Value → World → Prop} {w0 ws w : World} {s : St} {a : Act} {c : Ph0} {b : Frame} {k : List Item} {cs : List Frame} {N Ch sn hands : Nat} {jobs : List (List Deed)} {outs : List Tale}
theorem Cz.move {g g' : Goroutine} {σ : Gh} (hZ : Cz A O ws c L σ w) (hs : g.status = .running) (h : ∀ w₁, stepG Try.prog true g w₁ = .go g' w₁ #[]) (next : ∀ σ w, Cz A O ws c L σ w → CLife (many Try.prog) Post σ g' w) : CLife (many Try.prog) Post σ g w :=
  CLife.mk hs fun σ₁ w₁ he ⟨t, ho⟩ => .inl (let ⟨σ', k1, k2, _⟩ := (hZ.env he).idle ho g.frame.fn g.frame.place; ⟨g', w₁, _, _, σ', Moves.go (h w₁), k1, next _ _ k2⟩)
set_option maxRecDepth 20000 in
theorem t11_step {βr β3 β6 β7 : BK} {z : Nat → Value} (hb : b.fn = 4) (hk : b.kind ≠ .early) (hjN : jobs.length = N) (h : RunS A Post O0 I0 w0 Ch N (queue 0 N) true sn I s a w O)
    (hH : s.heap = [.one β7 42 1 (st1 fun _ => .v (.chan (some Ch))), .one β6 23 1 (st1 fun _ => .own βr 6 0 N), .one βr 37 6 ⟨N, fun _ f => .v (z f)⟩, .one β3 22 1 (st1 fun _ => slD jobs)])
    (e0 : look s.env 0 = some (.v (.int .i64 (hands : Int)))) (e3 : look s.env 3 = some (.ptr β3 1 0 0)) (e6 : look s.env 6 = some (.ptr β6 1 0 0)) (e7 : look s.env 7 = some (.ptr β7 1 0 0)) (h1 : 1 ≤ hands) (h8 : hands ≤ 8) (hAI : ∀ b, A b → I0 b)
    (hall : ∀ k, k < jobs.length → many_do_F (jobs.getD k El.d) = some (outs.getD k El.d)) (hlen : outs.length = jobs.length)
    (hc : ∀ e a' w' O', Y.bodyPost (yR A Post w0 (fps []) I0 O0) Try.f4 (Y.RetY (yR A Post w0 (fps []) I0 O0) (postR outs 0)) e a' w' O' → AfterO Try.prog (mn0 A Post) A b k cs e a' w' O') :
    GoesO Try.prog true A (mn0 A Post).Stop O (G (b.at a (.code t11 :: k)) cs) w := by
  rw [t11_eq]
  refine .move rfl (fun _ => stepG_seq) (.move rfl (fun _ => stepG_region) ?_)
  rw [r11]
  refine open_step p11_0 hk hjN h hH fun c L O' ws σ w hP hJ => ?_
  have hR := hP.run
  have hB := hR.sat.core.heap
  rw [hH] at hB
  have ok3 : BOk I c.w0 β3 22 1 (st1 fun _ => slD jobs) := hB (.one β3 22 1 (st1 fun _ => slD jobs)) (by simp)
  have ok6 : BOk I c.w0 β6 23 1 (st1 fun _ => .own βr 6 0 N) := hB (.one β6 23 1 (st1 fun _ => .own βr 6 0 N)) (by simp)
  have ok7 : BOk I c.w0 β7 42 1 (st1 fun _ => .v (.chan (some Ch))) := hB (.one β7 42 1 (st1 fun _ => .v (.chan (some Ch)))) (by simp)
  have fp3 : fps s.heap β3.b := by rw [hH]; exact ⟨.one β3 22 1 (st1 fun _ => slD jobs), by simp, ok3.1, rfl⟩
  have fp6 : fps s.heap β6.b := by rw [hH]; exact ⟨.one β6 23 1 (st1 fun _ => .own βr 6 0 N), by simp, ok6.1, rfl⟩
  have fp7 : fps s.heap β7.b := by rw [hH]; exact ⟨.one β7 42 1 (st1 fun _ => .v (.chan (some Ch))), by simp, ok7.1, rfl⟩
  have fpr : 0 < βr.s → fps s.heap βr.b := fun h0 => by rw [hH]; exact ⟨.one βr 37 6 ⟨N, fun _ f => .v (z f)⟩, by simp, h0, rfl⟩
  have g0 : a.eval (.tmp 0) = .int .i64 (hands : Int) := hR.sat.core.ev (x := .tmp 0) e0
  have g3 : a.eval (.tmp 3) = .pointer (some ⟨β3.b, β3.o, none⟩) := hR.sat.core.ev (x := .tmp 3) e3
  have g6 : a.eval (.tmp 6) = .pointer (some ⟨β6.b, β6.o, none⟩) := hR.sat.core.ev (x := .tmp 6) e6
  have g7 : a.eval (.tmp 7) = .pointer (some ⟨β7.b, β7.o, none⟩) := hR.sat.core.ev (x := .tmp 7) e7
  have hsz : a.tmps.size = 39 := hR.sat.core.tsz
  have hdf : a.defers = [] := hR.sat.core.dfr
  have IL : ∀ b, I b → A b ∨ L b := fun b hb => (hR.sat.imO hb).imp id fun h => (hP.len b).2 (.inl ⟨hb, h⟩)
  have box : ∀ {β : BK} {t : TypeId} {d : D}, BOk I c.w0 β t 1 (st1 fun _ => d) → L β.b → Rd (fun b => A b ∨ L b) c.w0 (.rp 1 1 (fun _ _ => d) 0 0) (.pointer (some ⟨β.b, β.o, none⟩)) := fun {β t d} ok hL => by
    refine ⟨β.b, β.o, rfl, .inr hL, fun e he f hf => ?_⟩
    obtain rfl : e = 0 := by omega
    obtain rfl : f = 0 := by omega
    obtain ⟨u, q1, q2, q3⟩ := ok.cell (e := 0) (f := 0) (by exact Nat.one_pos) (by exact Nat.one_pos)
    exact ⟨u, q1, q2, q3.mono IL fun _ _ => rfl⟩
  have hargs : RdL (fun b => A b ∨ L b) c.w0 (argsW c jobs) [.pointer (some ⟨β7.b, β7.o, none⟩), .pointer (some ⟨β3.b, β3.o, none⟩), .pointer (some ⟨β6.b, β6.o, none⟩), .pointer (some ⟨c.Wg, 0, none⟩)] := by
    unfold argsW
    rw [hP.row, ← hP.hN, hjN, hP.chc]
    exact ⟨_, _, rfl, box ok7 ((hP.len _).2 (.inr (.inr (.inr rfl)))), _, _, rfl, box ok3 ((hP.len _).2 (.inr (.inl rfl))), _, _, rfl, box ok6 ((hP.len _).2 (.inr (.inr (.inl rfl)))), _, _, rfl, rfl, rfl⟩
  have hA : Rely A (fun _ => False) c.w0 ws := ⟨hP.os, hP.tape, hP.output, hP.size, fun b hb _ => hP.old b hb⟩
  refine hJ.move rfl (fun _ => stepG_region_end) fun σ w hJ => hJ.move rfl (fun _ => stepG_seq) fun σ w hJ => hJ.move rfl (fun _ => stepG_seq) fun σ w hJ => hJ.move rfl (fun _ => stepG_region) fun σ w hJ => ?_
  rw [r12]
  have x0 : (a.put (some 9) (.pointer (some ⟨c.Wg, 0, none⟩))).eval (.tmp 0) = .int .i64 (hands : Int) := (eval_ne (by omega)).trans g0
  have x3 := (eval_ne (a := a) (k := 9) (j := 3) (v := .pointer (some ⟨c.Wg, 0, none⟩)) (by omega)).trans g3
  have x6 := (eval_ne (a := a) (k := 9) (j := 6) (v := .pointer (some ⟨c.Wg, 0, none⟩)) (by omega)).trans g6
  have x7 := (eval_ne (a := a) (k := 9) (j := 7) (v := .pointer (some ⟨c.Wg, 0, none⟩)) (by omega)).trans g7
  have x9 : (a.put (some 9) (.pointer (some ⟨c.Wg, 0, none⟩))).eval (.tmp 9) = .pointer (some ⟨c.Wg, 0, none⟩) := eval_eq (by omega)
  have xs : (a.put (some 9) (.pointer (some ⟨c.Wg, 0, none⟩))).tmps.size = 39 := size_put.trans hsz
  have xd : (a.put (some 9) (.pointer (some ⟨c.Wg, 0, none⟩))).defers = [] := hdf
  generalize a.put (some 9) (.pointer (some ⟨c.Wg, 0, none⟩)) = a1 at *
  refine hJ.val (x := .int .i64 (hands : Int)) p12_0 rfl hk (fun w => by rw [← x0]; exact move_run) fun σ w hJ => hJ.val (x := .int .i64 0) p12_1 rfl hk (fun w => move_run) fun σ w hJ => ?_
  refine hJ.move rfl (fun _ => stepG_region_end) fun σ w hJ => hJ.move rfl (fun _ => stepG_block) fun σ w hJ => hJ.move rfl (fun _ => stepG_loop) fun σ w hJ => ?_
  have hRg : Rg hands (.pointer (some ⟨β3.b, β3.o, none⟩)) (.pointer (some ⟨β6.b, β6.o, none⟩)) (.pointer (some ⟨β7.b, β7.o, none⟩)) (.pointer (some ⟨c.Wg, 0, none⟩)) (a1.put (some 31) (.int .i64 (hands : Int))) :=
    ⟨size_put.trans xs, xd, (eval_ne (by omega)).trans x3, (eval_ne (by omega)).trans x6, (eval_ne (by omega)).trans x7, (eval_ne (by omega)).trans x9, eval_eq (by omega)⟩
  refine hands_life (jobs := jobs) (v3 := .pointer (some ⟨β3.b, β3.o, none⟩)) (v6 := .pointer (some ⟨β6.b, β6.o, none⟩)) (v7 := .pointer (some ⟨β7.b, β7.o, none⟩)) hP.hN hP.post (fun k hk => ⟨_, hall k hk⟩) h8 hk hargs hA hP.lt (fun σ w a2 hJ hR2 => ?_) hands 0 (by omega) σ w _ hJ (hRg.put (by omega)) (eval_eq (by rw [size_put, xs]; omega))
  refine hJ.move rfl (fun _ => stepG_seq) fun σ w hJ => hJ.move rfl (fun _ => stepG_region) fun σ w hJ => ?_
  rw [r17]
  have hp17 := p17_0
  refine CLife.ok rfl fun σ₁ w₁ henv t hok => ?_
  replace hJ := hJ.env rsp henv
  obtain ⟨_, st, sm, _, _, _, hw, _⟩ := rp_mode hJ hok
  have e : (#[Operand.tmp 9].map a2.eval ++ Array.replicate ((waitFn lk).ntmps - (#[Operand.tmp 9].map a2.eval).size) undef) = waitArgs c.Wg := by
    have e1 : #[Operand.tmp 9].map a2.eval = #[.pointer (some ⟨c.Wg, 0, none⟩)] := by simp [hR2.g9]
    rw [e1]; exact waitArgs_eq c.Wg
  refine wait_life (by omega) (by omega) wgLib (b₀ := b) (a₀ := a2) (ops₀ := ops17) (i₀ := 0) (rest₀ := []) (k₀ := .code (.seq (.region 18 ops18 false) .ret) :: k) (cs := cs) rfl rfl (fun σ w hZ => ?_) hJ (m := 11) ?_
  · rw [hp17]
    refine hZ.move rfl (fun _ => stepG_region_end) fun σ w hZ => ?_
    exact end_step hP hZ hAI hall hlen hjN ok6 hb hk ⟨fun h => (hR.base.sub _ h).2 fp3, fun h => (hR.base.sub _ h).2 fp6, fun h => (hR.base.sub _ h).2 fp7⟩ (fun h0 h => (hR.base.sub _ h).2 (fpr h0)) (size_put.trans hR2.sz) hR2.df ((eval_ne (by omega)).trans hR2.g6) hc
  · refine y_call hp17 rfl hk rfl wgLib.f_wait (nm_wait lk) rfl ?_
    rw [e]
    exact waitStartY wgLib w₁ ⟨_, _, hw⟩
end
end Go.Proofs.Ytkfmphlnpmemdaa.Sx
namespace Go.Proofs.Ytkfmphlnpmemdaa.Sx
open Go Go.Conc Go.ConcN Go.Conc.Lib
open Go.ConcR (KK wgBlock WgAt stA smA rd wr mk DC0)
theorem listO_prefix {P : Program} {main : Mn} {Im : Nat → Prop} {Q : PostO} {all : Array Oper} {rest : List Nat} {b : Frame} {k : List Item} {cs : List Frame} (hk : b.kind ≠ .early)
    (hn : ∀ a' w' O', Q .normal a' w' O' → GoesO P main.b Im main.Stop O' (G (b.at a' (.inRegion all rest :: k)) cs) w') :
    ∀ (l : List Oper) (k0 : Nat) (a : Act) (w : World) (O : Nat → Prop), (∀ j, j < l.length → l[j]? = all[k0 + j]?) → listO P main Im all Q l a w O →
      GoesO P main.b Im main.Stop O (G (b.at a (.inRegion all (List.range' k0 l.length ++ rest) :: k)) cs) w
  | [], k0, a, w, O, _, h => hn a w O h
  | o :: l, k0, a, w, O, hl, h => by
    have h0 : all[k0]? = some o := by simpa using (hl 0 (by simp)).symm
    have hl' : ∀ j, j < l.length → l[j]? = all[k0 + 1 + j]? := fun j hj => by have := hl (j + 1) (by simp; omega); simpa [Nat.add_assoc, Nat.add_comm 1 j] using this
    simp only [List.length_cons, List.range'_succ, List.cons_append]
    refine GoesO.opi (K := listO P main Im all Q l) hk ?_ fun a' w' O' q => listO_prefix hk hn l (k0 + 1) a' w' O' hl' q
    unfold opiO
    unfold listO at h
    rw [h0]
    exact h
theorem RunS.pieceP {A I0 O0 I O : Nat → Prop} {Post : Value → World → Prop} {w0 w : World} {s : St} {a : Act} {Ch N sn : Nat} {buf : Array Value} {cl : Bool} (h : RunS A Post O0 I0 w0 Ch N buf cl sn I s a w O) {all : Array Oper} {l : List Oper} {k0 : Nat} {rest : List Nat} {Jt : St → Prop}
    (hc : Y.GoO (yR A Post w (fps s.heap) I O) Try.f4 (fun _ _ _ => False) all l [.again Jt] s) (hl : ∀ j, j < l.length → l[j]? = all[k0 + j]?) {b : Frame} {k : List Item} {cs : List Frame} (hk : b.kind ≠ .early)
    (hn : ∀ a' w' O' s' I', Jt s' → RunS A Post O0 I0 w0 Ch N buf cl sn I' s' a' w' O' → GoesO Try.prog true A (mn0 A Post).Stop O' (G (b.at a' (.inRegion all rest :: k)) cs) w') :
    GoesO Try.prog true A (mn0 A Post).Stop O (G (b.at a (.inRegion all (List.range' k0 l.length ++ rest) :: k)) cs) w :=
  listO_prefix (main := mn0 A Post) hk (fun a' w' O' ⟨s', I', h1, h2⟩ => hn a' w' O' s' I' h1 (h.then h2)) l k0 a w O hl (hc.run I a w O h.sat)
noncomputable def t5 : Code := match body4 with | .seq _ (.seq _ (.seq _ (.seq _ t))) => t | _ => .skip
noncomputable def lb4 : Code := match t5 with | .seq (.seq _ (.block _ (.loop c))) _ => c | _ => .skip
noncomputable def ops5 : Array Oper := match t5 with | .seq (.seq (.region _ o _) _) _ => o | _ => #[]
noncomputable def ops10 : Array Oper := match t5 with | .seq _ (.seq (.region _ o _) _) => o | _ => #[]
theorem t5_eq : t5 = .seq (.seq (.region 5 ops5 false) (.block 0 (.loop lb4))) (.seq (.region 10 ops10 false) t11) := rfl
noncomputable def ops6 : Array Oper := match lb4 with | .seq (.region _ o _) _ => o | _ => #[]
noncomputable def ops7 : Array Oper := match lb4 with | .seq _ (.seq _ (.seq (.block _ (.seq (.region _ o _) _)) _)) => o | _ => #[]
noncomputable def ops8 : Array Oper := match lb4 with | .seq _ (.seq _ (.seq (.block _ (.seq _ (.region _ o _))) _)) => o | _ => #[]
noncomputable def ops9 : Array Oper := match lb4 with | .seq _ (.seq _ (.seq _ (.region _ o _))) => o | _ => #[]
theorem lb4_eq : lb4 = .seq (.region 6 ops6 false) (.seq (.cond (.tmp 25) .skip (.exit 0)) (.seq (.block 1 (.seq (.region 7 ops7 false) (.region 8 ops8 false))) (.region 9 ops9 false))) := rfl
theorem r5_eq : Code.region 5 ops5 false = .region 5 [{ dst := some 22, op := .load 22 (.tmp 3), type := 22, pos := "many.go:18", after := #[], guard := none }, { dst := some 23, op := .call { callee := .builtin .len, args := #[.tmp 22], argTypes := #[22] }, type := 3, pos := "many.go:18", after := #[⟨0, .data⟩], guard := none }, { dst := some 24, op := .move (.const (.int .i64 0)), type := 3, pos := "many.go:18", after := #[], guard := none }].toArray false := by kernel_rfl
theorem r6_eq : Code.region 6 ops6 false = .region 6 [{ dst := some 25, op := .binOp .lss 3 (.tmp 24) (.tmp 23) 3, type := 0, pos := "many.go:18", after := #[], guard := none }].toArray false := by kernel_rfl
theorem r7_eq : Code.region 7 ops7 false = .region 7 [{ dst := some 26, op := .move (.tmp 24), type := 3, pos := "many.go:18", after := #[], guard := none }, { dst := some 8, op := .assign (.tmp 26), type := 3, pos := "many.go:18", after := #[⟨0, .data⟩, ⟨0, .phase⟩], guard := none }].toArray false := by kernel_rfl
theorem r9_eq : Code.region 9 ops9 false = .region 9 [{ dst := some 29, op := .binOp .add 3 (.tmp 24) (.const (.int .i64 1)) 3, type := 3, pos := "many.go:18", after := #[], guard := none }, { dst := some 24, op := .move (.tmp 29), type := 3, pos := "many.go:18", after := #[⟨0, .data⟩], guard := none }].toArray false := by kernel_rfl
noncomputable def l8 : List Oper := [{ dst := some 27, op := .load 42 (.tmp 7), type := 42, pos := "many.go:19", after := #[], guard := none }, { dst := some 28, op := .move (.tmp 8), type := 3, pos := "many.go:19", after := #[], guard := none }]
theorem l8_eq : ∀ j, j < l8.length → l8[j]? = ops8[0 + j]? := fun j hj => by
  have : j < 2 := hj
  match j, this with
  | 0, _ => exact (show l8[0]? = ops8[0]? by kernel_rfl)
  | 1, _ => exact (show l8[1]? = ops8[1]? by kernel_rfl)
theorem p8_2 : ops8[2]? = some { dst := none, op := .send (.tmp 27) (.tmp 28), type := 0, pos := "many.go:19", after := #[⟨0, .data⟩, ⟨1, .data⟩], guard := none } := by kernel_rfl
theorem r8 : List.range ops8.size = List.range' 0 l8.length ++ [2] := by kernel_rfl
noncomputable def l10 : List Oper := [{ dst := some 30, op := .load 42 (.tmp 7), type := 42, pos := "many.go:21", after := #[], guard := none }]
theorem l10_eq : ∀ j, j < l10.length → l10[j]? = ops10[0 + j]? := fun j hj => by
  have : j < 1 := hj
  match j, this with
  | 0, _ => exact (show l10[0]? = ops10[0]? by kernel_rfl)
theorem p10_1 : ops10[1]? = some { dst := none, op := .call { callee := .builtin .close, args := #[.tmp 30], argTypes := #[42] }, type := 0, pos := "many.go:21", after := #[⟨0, .data⟩], guard := none } := by kernel_rfl
theorem r10 : List.range ops10.size = List.range' 0 l10.length ++ [1] := by kernel_rfl
structure Ev (hands N j : Nat) (β3 β6 β7 βr : BK) (Ch : Nat) (jobs : List (List Deed)) (z : Nat → Value) (env : List (Nat × D)) : Prop where
  e0 : look env 0 = some (.v (.int .i64 (hands : Int)))
  e3 : look env 3 = some (.ptr β3 1 0 0)
  e6 : look env 6 = some (.ptr β6 1 0 0)
  e7 : look env 7 = some (.ptr β7 1 0 0)
  e23 : look env 23 = some (.v (.int .i64 (N : Int)))
  e24 : look env 24 = some (.v (.int .i64 (j : Int)))
def heapR (N : Nat) (β3 β6 β7 βr : BK) (Ch : Nat) (jobs : List (List Deed)) (z : Nat → Value) : List HL := [.one β7 42 1 (st1 fun _ => .v (.chan (some Ch))), .one β6 23 1 (st1 fun _ => .own βr 6 0 N), .one βr 37 6 ⟨N, fun _ f => .v (z f)⟩, .one β3 22 1 (st1 fun _ => slD jobs)]
section
variable {A I0 O0 : Nat → Prop} {Post : Value → World → Prop} {w0 : World} {b : Frame} {k2 : List Item} {cs : List Frame} {N Ch hands : Nat} {jobs : List (List Deed)} {β3 β6 β7 βr : BK} {z : Nat → Value}
set_option maxRecDepth 20000 in
theorem sends_step (hb : b.fn = 4) (hk : b.kind ≠ .early) (hN : N ≤ 10000000000)
    (fin : ∀ I a w O env, RunS A Post O0 I0 w0 Ch N (queue 0 N) false N I ⟨env, heapR N β3 β6 β7 βr Ch jobs z⟩ a w O → Ev hands N N β3 β6 β7 βr Ch jobs z env → GoesO Try.prog true A (mn0 A Post).Stop O (G (b.at a k2) cs) w) :
    ∀ (m j : Nat), j + m = N → ∀ I a w O env, RunS A Post O0 I0 w0 Ch N (queue 0 j) false j I ⟨env, heapR N β3 β6 β7 βr Ch jobs z⟩ a w O → Ev hands N j β3 β6 β7 βr Ch jobs z env →
      GoesO Try.prog true A (mn0 A Post).Stop O (G (b.at a (.code lb4 :: .inLoop lb4 :: .inBlock 0 :: k2)) cs) w := by
  intro m
  induction m with
  | zero =>
    intro j hj I a w O env hR hE
    rw [lb4_eq, r6_eq]
    refine .move rfl (fun _ => stepG_seq) ?_
    refine hR.piece (Jt := fun s' => s' = ⟨(25, .v (.bool (decide ((j : Int) < N)))) :: env, heapR N β3 β6 β7 βr Ch jobs z⟩) (Y.GoC.region (Y.GoO.pure (Y.ps_lss (x := .tmp 24) (y := .tmp 23) (m := (j : Int)) (n := (N : Int)) hE.e24 hE.e23 rfl) (Y.GoO.nil (Y.GoK.again rfl)))) hb hk fun a' w' O' s' I' e hR => ?_
    subst e
    have hcnd : a'.eval (.tmp 25) = .bool false := (hR.sat.core.ev (x := .tmp 25) rfl).trans (by rw [decide_eq_false (by omega)])
    refine .move rfl (fun _ => stepG_seq) (.move rfl (fun _ => stepG_cond hcnd) (.move rfl (fun _ => stepG_exit rfl) ?_))
    obtain rfl : j = N := by omega
    exact fin _ _ _ _ _ hR ⟨hE.e0, hE.e3, hE.e6, hE.e7, hE.e23, hE.e24⟩
  | succ m ih =>
    intro j hj I a w O env hR hE
    have e0 : (Item.code lb4 :: Item.inLoop lb4 :: Item.inBlock 0 :: k2) = Item.code (.seq (.region 6 ops6 false) (.seq (.cond (.tmp 25) .skip (.exit 0)) (.seq (.block 1 (.seq (.region 7 ops7 false) (.region 8 ops8 false))) (.region 9 ops9 false)))) :: Item.inLoop lb4 :: Item.inBlock 0 :: k2 := by rw [← lb4_eq]
    rw [e0, r6_eq, r7_eq, r9_eq]
    refine .move rfl (fun _ => stepG_seq) ?_
    refine hR.piece (Jt := fun s' => s' = ⟨(25, .v (.bool (decide ((j : Int) < N)))) :: env, heapR N β3 β6 β7 βr Ch jobs z⟩) (Y.GoC.region (Y.GoO.pure (Y.ps_lss (x := .tmp 24) (y := .tmp 23) (m := (j : Int)) (n := (N : Int)) hE.e24 hE.e23 rfl) (Y.GoO.nil (Y.GoK.again rfl)))) hb hk fun a1 w1 O1 s1 I1 e hR => ?_
    subst e
    have hcnd : a1.eval (.tmp 25) = .bool true := (hR.sat.core.ev (x := .tmp 25) rfl).trans (by rw [decide_eq_true (by omega)])
    refine .move rfl (fun _ => stepG_seq) (.move rfl (fun _ => stepG_cond hcnd) (.move rfl (fun _ => stepG_skip) (.move rfl (fun _ => stepG_seq) (.move rfl (fun _ => stepG_block) (.move rfl (fun _ => stepG_seq) ?_)))))
    refine hR.piece (Jt := fun s' => s' = ⟨(8, .v (.int .i64 (j : Int))) :: (26, .v (.int .i64 (j : Int))) :: (25, .v (.bool (decide ((j : Int) < N)))) :: env, heapR N β3 β6 β7 βr Ch jobs z⟩) (Y.GoC.region (Y.GoO.pure (Y.ps_move (x := .tmp 24) (q := .v (.int .i64 (j : Int))) hE.e24 rfl) (Y.GoO.pure (Y.ps_assign (x := .tmp 26) (q := .v (.int .i64 (j : Int))) rfl rfl) (Y.GoO.nil (Y.GoK.again rfl))))) hb hk fun a2 w2 O2 s2 I2 e hR => ?_
    subst e
    refine .move rfl (fun _ => stepG_region) ?_
    rw [r8]
    refine hR.pieceP (l := l8) (Jt := fun s' => s' = ⟨(28, .v (.int .i64 (j : Int))) :: (27, .v (.chan (some Ch))) :: (8, .v (.int .i64 (j : Int))) :: (26, .v (.int .i64 (j : Int))) :: (25, .v (.bool (decide ((j : Int) < N)))) :: env, heapR N β3 β6 β7 βr Ch jobs z⟩)
      (by
        unfold yR
        refine Y.GoO.pure (Y.ps_load (x := .tmp 7) (β := β7) (size := 1) (e := 0) (f := 0) hE.e7 At.p0 At.p0 Nat.zero_lt_one rfl rfl) ?_
        refine Y.GoO.pure (Y.ps_move (x := .tmp 8) (q := .v (.int .i64 (j : Int))) rfl rfl) ?_
        exact Y.GoO.nil (Y.GoK.again rfl)) l8_eq hk fun a3 w3 O3 s3 I3 e hR => ?_
    subst e
    refine send_step p8_2 hk hR rfl rfl (by rw [queue_size]; omega) fun w4 O4 hR => ?_
    rw [queue_push] at hR
    refine .move rfl (fun _ => stepG_region_end) (.move rfl (fun _ => stepG_inBlock) ?_)
    refine hR.piece (Jt := fun s' => ∃ env', s' = ⟨env', heapR N β3 β6 β7 βr Ch jobs z⟩ ∧ Ev hands N (j + 1) β3 β6 β7 βr Ch jobs z env') (by
        unfold yR
        refine Y.GoC.region ?_
        refine Y.GoO.pure (Y.ps_add (x := .tmp 24) (m := (j : Int)) (n := 1) hE.e24 rfl rfl ⟨by omega, by omega⟩) ?_
        refine Y.GoO.pure (Y.ps_move (x := .tmp 29) (q := .v (.int .i64 ((j : Int) + 1))) rfl rfl) ?_
        exact Y.GoO.nil (Y.GoK.again ⟨_, rfl, hE.e0, hE.e3, hE.e6, hE.e7, hE.e23, rfl⟩)) hb hk fun a5 w5 O5 s5 I5 e hR => ?_
    obtain ⟨env', rfl, hE'⟩ := e
    exact .move rfl (fun _ => stepG_inLoop) (ih (j + 1) (by omega) _ _ _ _ _ hR hE')
end
instance : ZI Try.prog 42 1 8 (.chan none) := ZI.of (by kernel_rfl) rfl rfl
theorem upd_one {g : Nat → D} {q : D} : Upd1 1 (st1 g) 0 0 q (st1 fun _ => q) :=
  ⟨rfl, fun e' f' he hf => by
    have he0 : e' = 0 := by simp only [st1] at he; omega
    have hf0 : f' = 0 := by omega
    subst he0 hf0
    simp [st1]⟩
noncomputable def t4 : Code := match body4 with | .seq _ (.seq _ (.seq _ t)) => t | _ => .skip
noncomputable def ops4 : Array Oper := match t4 with | .seq (.region _ o _) _ => o | _ => #[]
theorem t4_eq : t4 = .seq (.region 4 ops4 false) t5 := rfl
noncomputable def l4 : List Oper := [{ dst := some 19, op := .load 22 (.tmp 3), type := 22, pos := "many.go:17", after := #[], guard := none }, { dst := some 20, op := .call { callee := .builtin .len, args := #[.tmp 19], argTypes := #[22] }, type := 3, pos := "many.go:17", after := #[⟨0, .data⟩], guard := none }]
theorem l4_eq : ∀ j, j < l4.length → l4[j]? = ops4[0 + j]? := fun j hj => by
  have : j < 2 := hj
  match j, this with
  | 0, _ => exact (show l4[0]? = ops4[0]? by kernel_rfl)
  | 1, _ => exact (show l4[1]? = ops4[1]? by kernel_rfl)
theorem p4_2 : ops4[2]? = some { dst := some 21, op := .makeChan 42 (.tmp 20), type := 42, pos := "many.go:17", after := #[⟨1, .data⟩], guard := none } := by kernel_rfl
noncomputable def l4b : List Oper := [{ dst := some 7, op := .alloc 42, type := 0, pos := "many.go:17", after := #[], guard := none }, { dst := none, op := .store 42 (.tmp 7) (.tmp 21), type := 0, pos := "many.go:17", after := #[⟨3, .data⟩, ⟨2, .data⟩, ⟨0, .phase⟩, ⟨1, .phase⟩, ⟨2, .phase⟩, ⟨3, .phase⟩], guard := none }]
theorem l4b_eq : ∀ j, j < l4b.length → l4b[j]? = ops4[3 + j]? := fun j hj => by
  have : j < 2 := hj
  match j, this with
  | 0, _ => exact (show l4b[0]? = ops4[3]? by kernel_rfl)
  | 1, _ => exact (show l4b[1]? = ops4[4]? by kernel_rfl)
theorem r4 : List.range ops4.size = List.range' 0 l4.length ++ [2, 3, 4] := by kernel_rfl
section
variable {A I0 O0 I O : Nat → Prop} {Post : Value → World → Prop} {w0 w : World} {a : Act} {b : Frame} {k : List Item} {cs : List Frame} {N Ch hands : Nat} {jobs : List (List Deed)} {outs : List Tale} {β3 β6 β7 βr : BK} {z : Nat → Value} {env : List (Nat × D)}
set_option maxRecDepth 20000 in
theorem t5_step (hb : b.fn = 4) (hk : b.kind ≠ .early) (hN : N ≤ 10000000000) (hjN : jobs.length = N) (hR : RunS A Post O0 I0 w0 Ch N #[] false 0 I ⟨env, heapR N β3 β6 β7 βr Ch jobs z⟩ a w O)
    (e0 : look env 0 = some (.v (.int .i64 (hands : Int)))) (e3 : look env 3 = some (.ptr β3 1 0 0)) (e6 : look env 6 = some (.ptr β6 1 0 0)) (e7 : look env 7 = some (.ptr β7 1 0 0)) (h1 : 1 ≤ hands) (h8 : hands ≤ 8) (hAI : ∀ b, A b → I0 b)
    (hall : ∀ k, k < jobs.length → many_do_F (jobs.getD k El.d) = some (outs.getD k El.d)) (hlen : outs.length = jobs.length)
    (hc : ∀ e a' w' O', Y.bodyPost (yR A Post w0 (fps []) I0 O0) Try.f4 (Y.RetY (yR A Post w0 (fps []) I0 O0) (postR outs 0)) e a' w' O' → AfterO Try.prog (mn0 A Post) A b k cs e a' w' O') :
    GoesO Try.prog true A (mn0 A Post).Stop O (G (b.at a (.code t5 :: k)) cs) w := by
  rw [t5_eq, r5_eq]
  refine .move rfl (fun _ => stepG_seq) (.move rfl (fun _ => stepG_seq) ?_)
  refine hR.piece (Jt := fun s' => ∃ env', s' = ⟨env', heapR N β3 β6 β7 βr Ch jobs z⟩ ∧ Ev hands N 0 β3 β6 β7 βr Ch jobs z env') (by
    unfold yR
    refine Y.GoC.region ?_
    refine Y.GoO.pure (Y.ps_load (x := .tmp 3) (β := β3) (size := 1) (e := 0) (f := 0) e3 At.p3 At.p3 Nat.zero_lt_one rfl rfl) ?_
    refine Y.GoO.pure (Y.ps_len rfl (by constructor) rfl) ?_
    refine Y.GoO.pure (Y.ps_move rfl rfl) ?_
    exact Y.GoO.nil (Y.GoK.again ⟨_, rfl, e0, e3, e6, e7, by rw [← hjN]; rfl, rfl⟩)) hb hk fun a1 w1 O1 s1 I1 e hR => ?_
  obtain ⟨env', rfl, hE⟩ := e
  refine .move rfl (fun _ => stepG_block) (.move rfl (fun _ => stepG_loop) ?_)
  refine sends_step hb hk hN (fun I a w O env hR hE => ?_) N 0 (by omega) I1 a1 w1 O1 env' (by rw [queue_nil]; exact hR) hE
  refine .move rfl (fun _ => stepG_seq) (.move rfl (fun _ => stepG_region) ?_)
  rw [r10]
  refine hR.pieceP (l := l10) (Jt := fun s' => s' = ⟨(30, .v (.chan (some Ch))) :: env, heapR N β3 β6 β7 βr Ch jobs z⟩) (by
    unfold yR
    refine Y.GoO.pure (Y.ps_load (x := .tmp 7) (β := β7) (size := 1) (e := 0) (f := 0) hE.e7 At.p0 At.p0 Nat.zero_lt_one rfl rfl) ?_
    exact Y.GoO.nil (Y.GoK.again rfl)) l10_eq hk fun a2 w2 O2 s2 I2 e hR => ?_
  subst e
  refine close_step p10_1 hk hR rfl fun w3 O3 hR => ?_
  refine .move rfl (fun _ => stepG_region_end) ?_
  exact t11_step hb hk hjN hR rfl hE.e0 hE.e3 hE.e6 hE.e7 h1 h8 hAI hall hlen hc
set_option maxRecDepth 20000 in
theorem t4_step (hb : b.fn = 4) (hk : b.kind ≠ .early) (hN : N ≤ 10000000000) (hjN : jobs.length = N)
    (hs : SatY (yR A Post w0 (fps []) I0 O0) I ⟨env, [.one β6 23 1 (st1 fun _ => .own βr 6 0 N), .one βr 37 6 ⟨N, fun _ f => .v (z f)⟩, .one β3 22 1 (st1 fun _ => slD jobs)]⟩ a w O)
    (e0 : look env 0 = some (.v (.int .i64 (hands : Int)))) (e3 : look env 3 = some (.ptr β3 1 0 0)) (e6 : look env 6 = some (.ptr β6 1 0 0)) (h1 : 1 ≤ hands) (h8 : hands ≤ 8) (hAI : ∀ b, A b → I0 b)
    (hall : ∀ k, k < jobs.length → many_do_F (jobs.getD k El.d) = some (outs.getD k El.d)) (hlen : outs.length = jobs.length)
    (hc : ∀ e a' w' O', Y.bodyPost (yR A Post w0 (fps []) I0 O0) Try.f4 (Y.RetY (yR A Post w0 (fps []) I0 O0) (postR outs 0)) e a' w' O' → AfterO Try.prog (mn0 A Post) A b k cs e a' w' O') :
    GoesO Try.prog true A (mn0 A Post).Stop O (G (b.at a (.code t4 :: k)) cs) w := by
  rw [t4_eq]
  refine .move rfl (fun _ => stepG_seq) (.move rfl (fun _ => stepG_region) ?_)
  rw [r4]
  have hgo : Y.GoO (yR A Post w0 (fps []) I0 O0) Try.f4 (fun _ _ _ => False) ops4 l4 [.again fun s' => s' = ⟨(20, .v (.int .i64 (N : Int))) :: (19, slD jobs) :: env, [.one β6 23 1 (st1 fun _ => .own βr 6 0 N), .one βr 37 6 ⟨N, fun _ f => .v (z f)⟩, .one β3 22 1 (st1 fun _ => slD jobs)]⟩] ⟨env, [.one β6 23 1 (st1 fun _ => .own βr 6 0 N), .one βr 37 6 ⟨N, fun _ f => .v (z f)⟩, .one β3 22 1 (st1 fun _ => slD jobs)]⟩ := by
    unfold yR
    refine Y.GoO.pure (Y.ps_load (x := .tmp 3) (β := β3) (size := 1) (e := 0) (f := 0) e3 At.p2 At.p2 Nat.zero_lt_one rfl rfl) ?_
    refine Y.GoO.pure (Y.ps_len rfl (by constructor) rfl) ?_
    exact Y.GoO.nil (Y.GoK.again (by rw [← hjN]; rfl))
  refine listO_prefix (main := mn0 A Post) hk (fun a1 w1 O1 ⟨s', I1, h1', h2⟩ => ?_) l4 0 a w O l4_eq (hgo.run I a w O hs)
  subst h1'
  refine chan_step p4_2 hk h2 rfl (by omega) fun w2 O2 Ch a2 hR => ?_
  refine hR.pieceO (l := l4b) (k0 := 3) (Jt := fun s' => ∃ β7 env', s' = ⟨env', heapR N β3 β6 β7 βr Ch jobs z⟩ ∧ look env' 0 = some (.v (.int .i64 (hands : Int))) ∧ look env' 3 = some (.ptr β3 1 0 0) ∧ look env' 6 = some (.ptr β6 1 0 0) ∧ look env' 7 = some (.ptr β7 1 0 0)) (by
    unfold yR
    refine Y.GoO.effB (Y.ef_alloc rfl) (fun β7 => ?_)
    refine Y.GoO.eff1 (Y.ef_store rfl rfl rfl At.p0 upd_one Nat.zero_lt_one rfl) ?_
    exact Y.GoO.nil (Y.GoK.again ⟨β7, _, rfl, e0, e3, e6, rfl⟩)) l4b_eq hb hk fun a3 w3 O3 s3 I3 e hR => ?_
  obtain ⟨β7, env', rfl, q0, q3, q6, q7⟩ := e
  exact t5_step hb hk hN hjN hR q0 q3 q6 q7 h1 h8 hAI hall hlen hc
end
theorem mapM_some {α β : Type} {f : α → Option β} {d : α} {d' : β} : ∀ {l : List α} {l' : List β}, l.mapM f = some l' → l'.length = l.length ∧ ∀ k, k < l.length → f (l.getD k d) = some (l'.getD k d')
  | [], l', h => by
    simp at h
    subst h
    exact ⟨rfl, fun k hk => absurd hk (by simp)⟩
  | x :: l, l', h => by
    rw [List.mapM_cons] at h
    cases hx : f x with
    | none => rw [hx] at h; cases h
    | some y =>
      rw [hx] at h
      cases hl : l.mapM f with
      | none => rw [hl] at h; cases h
      | some l2 =>
        rw [hl] at h
        cases h
        obtain ⟨h1, h2⟩ := mapM_some (d := d) (d' := d') hl
        refine ⟨by simp [h1], fun k hk => ?_⟩
        cases k with
        | zero => exact hx
        | succ k => exact h2 k (by simpa using hk)
namespace Y
theorem le_nil {env : List (Nat × D)} {H : List HL} {k : Nat} (h : look env k = some (.v (.slice none 0 0))) : Le ⟨env, H⟩ ⟨(k, slD ([] : List Tale)) :: env, H⟩ :=
  Le.re (s := ⟨env, H⟩) k h fun I w v hv => by
    cases hv
    exact ⟨none, 0, rfl, Nat.le_refl _, Nat.zero_le _, fun h => absurd h (Nat.lt_irrefl _)⟩
set_option maxRecDepth 100000 in
set_option maxHeartbeats 4000000 in
theorem many_Run_spec {A : Nat → Prop} {Post : Value → World → Prop} (hands : Int) (jobs : List (List Deed)) {outs : List Tale} {e : Int} (H : many_Run_F hands jobs = some (outs, e)) : DoesM Try.prog (mn0 A Post) A 4 [.v (.int .i64 hands), slD jobs] [] (postR outs e) := by
  unfold many_Run_F at H
  refine DoesM.intro Try.func4 rfl Try.ntmps4 rfl fun w0 I0 hIm => ?_
  have bad : ∀ {env : List (Nat × D)} {H : List HL} {k : List It}, look env 4 = some (.v (.slice none 0 0)) → look env 5 = some (.v (.int .i64 1)) → (outs, e) = (([] : List Tale), (1 : Int)) →
      GoC ⟨Try.prog, 39, mn0 A Post, 4, w0.w, fps [], I0, w0.O, A⟩ Try.f4 (RetY ⟨Try.prog, 39, mn0 A Post, 4, w0.w, fps [], I0, w0.O, A⟩ (postR outs e)) .ret k ⟨env, H⟩ := fun h4 h5 he => by
    cases he
    refine GoC.le (le_nil h4) ?_
    exact GoC.retL (ds := [slD ([] : List Tale), .v (.int .i64 1)]) Try.results4 (ResL.cons (ResD.tmp rfl) (ResL.cons (ResD.tmp h5) ResL.nil)) (Take.nil _) ⟨rfl, rfl⟩
  refine GoC.seq ?_
  refine GoC.region ?_
  refine GoO.effB (ef_box rfl rfl rfl) (fun β3 => ?_)
  refine GoO.pure (ps_assign rfl rfl) ?_
  refine GoO.pure (ps_assign rfl rfl) ?_
  refine GoO.nil ?_
  refine GoK.code ?_
  refine GoC.seq ?_
  refine GoC.seq ?_
  refine GoC.region ?_
  refine GoO.pure (ps_move rfl rfl) ?_
  refine GoO.pure (ps_lss rfl rfl rfl) ?_
  refine GoO.pure (ps_move rfl rfl) ?_
  refine GoO.guardE rfl rfl rfl rfl (fun h2 => ?_) (fun h2 => ?_)
  · rw [if_neg h2] at H
    refine GoO.pure (ps_move rfl rfl) ?_
    refine GoO.guardT rfl rfl rfl ?_
    refine GoO.pure (ps_gtr rfl rfl rfl) ?_
    refine GoO.pure (ps_pickF rfl rfl rfl) ?_
    refine GoO.nil ?_
    refine GoK.code ?_
    refine GoC.condD rfl (fun h3 => ?_) (fun h3 => ?_)
    · rw [if_pos h3] at H
      refine GoC.seq ?_
      refine GoC.region ?_
      refine GoO.pure (ps_assign rfl rfl) ?_
      refine GoO.pure (ps_assign rfl rfl) ?_
      refine GoO.nil ?_
      refine GoK.code ?_
      refine bad ?_ ?_ (Option.some.inj H).symm <;> rfl
    · rw [if_neg h3] at H
      refine GoC.skip ?_
      refine GoK.code ?_
      refine GoC.seq ?_
      refine GoC.region ?_
      have hN := ck_l H; replace H := ck_r H
      have hb := bind_l H; clear H
      obtain ⟨outs', hm, H⟩ := hb
      cases H
      obtain ⟨hlen, hall⟩ := mapM_some (d := El.d) (d' := El.d) hm
      refine GoO.pure (ps_load rfl At.p0 At.p0 Nat.zero_lt_one rfl rfl) ?_
      refine GoO.pure (ps_len rfl (by constructor) rfl) ?_
      refine GoO.effB (ef_makeZ (m := (jobs.length : Int)) rfl rfl ⟨by omega, by omega⟩ rfl rfl rfl) (fun βr => ?_)
      refine GoO.effB (ef_alloc rfl) (fun β6 => ?_)
      refine GoO.eff1 (ef_store rfl rfl rfl At.p0 upd_one Nat.zero_lt_one rfl) ?_
      refine GoO.nil ?_
      refine GoK.code ?_
      obtain ⟨n, hn⟩ : ∃ n : Nat, hands = (n : Int) := ⟨hands.toNat, by omega⟩
      subst hn
      exact ⟨fun I a w O hs b k cs hb hk hc => t4_step (N := jobs.length) (outs := outs) (hands := n) hb hk hN rfl hs rfl rfl rfl (by omega) (by omega) hIm hall hlen hc⟩
  · rw [if_pos h2] at H
    refine GoO.guardF rfl rfl rfl rfl ?_
    refine GoO.pure (ps_pickT rfl rfl rfl) ?_
    refine GoO.nil ?_
    refine GoK.code ?_
    refine GoC.condT rfl ?_
    refine GoC.seq ?_
    refine GoC.region ?_
    refine GoO.pure (ps_assign rfl rfl) ?_
    refine GoO.pure (ps_assign rfl rfl) ?_
    refine GoO.nil ?_
    refine GoK.code ?_
    refine bad ?_ ?_ (Option.some.inj H).symm <;> rfl
end Y
end Go.Proofs.Ytkfmphlnpmemdaa.Sx
