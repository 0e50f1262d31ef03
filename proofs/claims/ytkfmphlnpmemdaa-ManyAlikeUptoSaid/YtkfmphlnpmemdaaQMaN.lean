import Derived.Conc.CrowdRun
import Derived.Conc.WgGenN3
import Derived.Conc.WgGenWait
import Derived.Conc.CompanyWords
set_option linter.unusedVariables false
set_option linter.unusedSimpArgs false
namespace Go.Proofs.Ytkfmphlnpmemdaa.Sx
open Go Go.Conc Go.ConcN Go.RowKit Go.Conc.Lib Go.ConcR.Gen Go.ConcN.Gen
open Go.ConcR (KK wgBlock WgAt stA smA rd wr mk Payload Aside2 DC0)
instance payN : Payload := ⟨3⟩
variable {L : WgLink}
def Rl (ty : TypeId) (Wg : Nat) (w w₁ : World) : Prop := WgLive ty Wg w → WgLive ty Wg w₁
theorem rl {ty : TypeId} {Wg : Nat} {w w₁ : World} (h : WgLive ty Wg w) (r : Rl ty Wg w w₁) : WgLive ty Wg w₁ := r h
section
variable (P : Program) (main : Bool) (ty : TypeId) (Wg : Nat)
def At1 (e : Event) (Next : Goroutine → World → Prop) (g : Goroutine) (w : World) : Prop :=
  g.status = .running ∧ ∃ g', stepG P main g w = .go g' w #[e] ∧ ∃ m, Goes P main (Rl ty Wg) DC0 Next m g' w
def Wd4 (g : Goroutine) (w : World) : Prop :=
  g.status = .running ∧ mayWake P g = true ∧ (WgAt ty Wg w 0 0 → ∃ g', stepG P false g w = .go g' (w.setCell (smA Wg) (.int .u32 1)) (semEvents (smA Wg)) ∧ ∃ q, QuitsD P q 1 g')
def Wd3 (g : Goroutine) (w : World) : Prop :=
  g.status = .running ∧ (WgAt ty Wg w 1 0 → ∃ g', stepG P false g w = .go g' (w.setCell (stA Wg) (.int .u64 0)) #[wr (stA Wg)] ∧ ∃ m, Goes P false (Rl ty Wg) DC0 (Wd4 P ty Wg) m g' (w.setCell (stA Wg) (.int .u64 0)))
def Wd2 (g : Goroutine) (w : World) : Prop :=
  g.status = .running ∧ (WgAt ty Wg w 1 0 → ∃ g', stepG P false g w = .go g' w #[rd (stA Wg)] ∧ ∃ m, Goes P false (Rl ty Wg) DC0 (Wd3 P ty Wg) m g' w)
def Wd1 (g : Goroutine) (w : World) : Prop :=
  g.status = .running ∧ ∀ v wt : Nat, wt ≤ 1 → v < 2147483647 → WgAt ty Wg w ((v + 1) * KK + wt) 0 →
    ∃ g', stepG P false g w = .go g' (w.setCell (stA Wg) (.int .u64 (v * KK + wt))) #[rd (stA Wg), wr (stA Wg)] ∧
      ((v = 0 ∧ wt = 1) → ∃ m, Goes P false (Rl ty Wg) DC0 (Wd2 P ty Wg) m g' (w.setCell (stA Wg) (.int .u64 (v * KK + wt)))) ∧ (¬ (v = 0 ∧ wt = 1) → ∃ q, QuitsD P q 1 g')
end
section
variable (P : Program) (ty : TypeId) (Wg : Nat) (g0 : Goroutine)
def FinG (g : Goroutine) (_ : World) : Prop := g = g0
def CaE : Goroutine → World → Prop := At1 P true ty Wg (mk .enable) (FinG g0)
def CaR : Goroutine → World → Prop := At1 P true ty Wg (mk (.read (smA Wg))) (CaE P ty Wg g0)
def Ca1 (g : Goroutine) (w : World) : Prop :=
  g.status = .running ∧ ∀ v : Nat, v < 2147483646 → WgAt ty Wg w (v * KK) 0 → ∃ g', stepG P true g w = .go g' (w.setCell (stA Wg) (.int .u64 ((v + 1) * KK))) #[rd (stA Wg), wr (stA Wg)] ∧
    ((∃ m, Goes P true (Rl ty Wg) DC0 (CaR P ty Wg g0) m g' (w.setCell (stA Wg) (.int .u64 ((v + 1) * KK)))) ∨ ∃ m, Goes P true (Rl ty Wg) DC0 (CaE P ty Wg g0) m g' (w.setCell (stA Wg) (.int .u64 ((v + 1) * KK))))
def CwA : Goroutine → World → Prop := At1 P true ty Wg (mk (.acquire (stA Wg))) (FinG g0)
def CwE : Goroutine → World → Prop := At1 P true ty Wg (mk .enable) (CwA P ty Wg g0)
def Cw4 (g : Goroutine) (w : World) : Prop :=
  g.status = .running ∧ (WgAt ty Wg w 0 0 → ∃ g', stepG P true g w = .go g' w #[rd (stA Wg)] ∧ ∃ m, Goes P true (Rl ty Wg) DC0 (CwE P ty Wg g0) m g' w)
def Cw3 (g : Goroutine) (w : World) : Prop :=
  g.status = .running ∧ g.offers = none ∧ ((∃ st, WgAt ty Wg w st 0) → stepG P true g w = .go { g with status := .blocked } w #[]) ∧
    (WgAt ty Wg w 0 1 → ∃ g', stepG P true g w = .go g' (w.setCell (smA Wg) (.int .u32 0)) (semEvents (smA Wg)) ∧ ∃ m, Goes P true (Rl ty Wg) DC0 (Cw4 P ty Wg g0) m g' (w.setCell (smA Wg) (.int .u32 0)))
def CwW : Goroutine → World → Prop := At1 P true ty Wg (mk (.write (smA Wg))) (Cw3 P ty Wg g0)
variable (Anch : Goroutine → World → Prop)
def Cw2 (vs : Nat) (g : Goroutine) (w : World) : Prop :=
  g.status = .running ∧ ∀ v : Nat, v < 2147483648 → WgAt ty Wg w (v * KK) 0 →
    (v = vs → ∃ g', stepG P true g w = .go g' (w.setCell (stA Wg) (.int .u64 (v * KK + 1))) #[rd (stA Wg), wr (stA Wg)] ∧ ∃ m, Goes P true (Rl ty Wg) DC0 (CwW P ty Wg g0) m g' (w.setCell (stA Wg) (.int .u64 (v * KK + 1)))) ∧
    (v ≠ vs → ∃ g', stepG P true g w = .go g' w #[rd (stA Wg)] ∧ ∃ m, Goes P true (Rl ty Wg) DC0 Anch m g' w)
def Cw1 (g : Goroutine) (w : World) : Prop :=
  g.status = .running ∧ ∀ v : Nat, v < 2147483648 → WgAt ty Wg w (v * KK) 0 → ∃ g', stepG P true g w = .go g' w #[rd (stA Wg)] ∧
    (v = 0 → ∃ m, Goes P true (Rl ty Wg) DC0 (CwE P ty Wg g0) m g' w) ∧ (v ≠ 0 → ∃ m, Goes P true (Rl ty Wg) DC0 (Cw2 P ty Wg g0 Anch v) m g' w)
end
def AnchY (L : WgLink) (Wg : Nat) (c : Frame) (cs : List Frame) (g : Goroutine) (w : World) : Prop :=
  ∃ T : Array Value, g = G ((base L.wait).at ⟨T, []⟩ [.code (L7 L), .inLoop (L7 L), .inBlock 0]) (c :: cs) ∧ T.size = 84 ∧ T[0]? = some (.pointer (some ⟨Wg, 0, none⟩))
section
variable {P : Program} {main : Bool} {ty : TypeId} {Wg n : Nat} {Stop : Goroutine → World → Prop} {b b₀ : Frame} {a a₀ : Act} {k todo : List Item} {cs : List Frame} {w : World}
theorem y_move {g g' : Goroutine} (hs : g.status = .running) (h : ∀ w₁, stepG P main g w₁ = .go g' w₁ #[]) (hg : Goes P main (Rl ty Wg) DC0 Stop n g' w) : Goes P main (Rl ty Wg) DC0 Stop (n + 1) g w :=
  Goes.step hs fun w₁ h₁ => by rw [h w₁]; exact ⟨⟨rfl, rfl⟩, Goes.rely (fun _ _ _ h h' l => h' (h l)) hg h₁⟩
theorem y_seq {x y : Code} (h : Goes P main (Rl ty Wg) DC0 Stop n (G (b.at a (.code x :: .code y :: k)) cs) w) : Goes P main (Rl ty Wg) DC0 Stop (n + 1) (G (b.at a (.code (.seq x y) :: k)) cs) w := y_move rfl (fun _ => stepG_seq) h
theorem y_region {id : Nat} {ops : Array Oper} (h : Goes P main (Rl ty Wg) DC0 Stop n (G (b.at a (.inRegion ops (List.range ops.size) :: k)) cs) w) : Goes P main (Rl ty Wg) DC0 Stop (n + 1) (G (b.at a (.code (.region id ops false) :: k)) cs) w := y_move rfl (fun _ => stepG_region) h
theorem y_region_end {ops : Array Oper} (h : Goes P main (Rl ty Wg) DC0 Stop n (G (b.at a k) cs) w) : Goes P main (Rl ty Wg) DC0 Stop (n + 1) (G (b.at a (.inRegion ops [] :: k)) cs) w := y_move rfl (fun _ => stepG_region_end) h
theorem y_code_skip (h : Goes P main (Rl ty Wg) DC0 Stop n (G (b.at a k) cs) w) : Goes P main (Rl ty Wg) DC0 Stop (n + 1) (G (b.at a (.code .skip :: k)) cs) w := y_move rfl (fun _ => stepG_skip) h
theorem y_block {id : Nat} {c : Code} (h : Goes P main (Rl ty Wg) DC0 Stop n (G (b.at a (.code c :: .inBlock id :: k)) cs) w) : Goes P main (Rl ty Wg) DC0 Stop (n + 1) (G (b.at a (.code (.block id c) :: k)) cs) w := y_move rfl (fun _ => stepG_block) h
theorem y_loop {c : Code} (h : Goes P main (Rl ty Wg) DC0 Stop n (G (b.at a (.code c :: .inLoop c :: k)) cs) w) : Goes P main (Rl ty Wg) DC0 Stop (n + 1) (G (b.at a (.code (.loop c) :: k)) cs) w := y_move rfl (fun _ => stepG_loop) h
theorem y_inBlock {id : Nat} (h : Goes P main (Rl ty Wg) DC0 Stop n (G (b.at a k) cs) w) : Goes P main (Rl ty Wg) DC0 Stop (n + 1) (G (b.at a (.inBlock id :: k)) cs) w := y_move rfl (fun _ => stepG_inBlock) h
theorem y_inLoop {c : Code} (h : Goes P main (Rl ty Wg) DC0 Stop n (G (b.at a (.code c :: .inLoop c :: k)) cs) w) : Goes P main (Rl ty Wg) DC0 Stop (n + 1) (G (b.at a (.inLoop c :: k)) cs) w := y_move rfl (fun _ => stepG_inLoop) h
theorem y_exit {id : Nat} {k' : List Item} (e : exitTo id k = some k') (h : Goes P main (Rl ty Wg) DC0 Stop n (G (b.at a k') cs) w) : Goes P main (Rl ty Wg) DC0 Stop (n + 1) (G (b.at a (.code (.exit id) :: k)) cs) w := y_move rfl (fun _ => stepG_exit e) h
theorem y_exit0 {id : Nat} (h : Goes P main (Rl ty Wg) DC0 Stop n (G (b.at a (.code (.exit id) :: k)) cs) w) : Goes P main (Rl ty Wg) DC0 Stop n (G (b.at a (.code (.exit id) :: k)) cs) w := h
theorem y_cond {c : Operand} {x y : Code} (h : Goes P main (Rl ty Wg) DC0 Stop n (G (b.at a (.code (.cond c x y) :: k)) cs) w) : Goes P main (Rl ty Wg) DC0 Stop n (G (b.at a (.code (.cond c x y) :: k)) cs) w := h
theorem y_condT {c : Operand} {x y : Code} (e : a.eval c = .bool true) (h : Goes P main (Rl ty Wg) DC0 Stop n (G (b.at a (.code x :: k)) cs) w) : Goes P main (Rl ty Wg) DC0 Stop (n + 1) (G (b.at a (.code (.cond c x y) :: k)) cs) w := y_move rfl (fun _ => stepG_cond e) h
theorem y_condF {c : Operand} {x y : Code} (e : a.eval c = .bool false) (h : Goes P main (Rl ty Wg) DC0 Stop n (G (b.at a (.code y :: k)) cs) w) : Goes P main (Rl ty Wg) DC0 Stop (n + 1) (G (b.at a (.code (.cond c x y) :: k)) cs) w := y_move rfl (fun _ => stepG_cond e) h
theorem y_end (h : Goes P main (Rl ty Wg) DC0 Stop n (G { b.at a [] with mode := .returning } cs) w) : Goes P main (Rl ty Wg) DC0 Stop (n + 1) (G (b.at a []) cs) w := y_move rfl (fun _ => stepG_end) h
theorem y_ret (h : Goes P main (Rl ty Wg) DC0 Stop n (G { b.at a (.code .ret :: k) with mode := .returning } cs) w) : Goes P main (Rl ty Wg) DC0 Stop (n + 1) (G (b.at a (.code .ret :: k)) cs) w := y_move rfl (fun _ => stepG_ret') h
theorem y_op {ops : Array Oper} {i : Nat} {rest : List Nat} (h : Goes P main (Rl ty Wg) DC0 Stop n (G (b.at a (.inRegion ops (i :: rest) :: k)) cs) w) : Goes P main (Rl ty Wg) DC0 Stop n (G (b.at a (.inRegion ops (i :: rest) :: k)) cs) w := h
theorem y_skip {ops : Array Oper} {i : Nat} {rest : List Nat} {o : Oper} (ho : ops[i]? = some o) (hw : Region.wanted o (yielded ops a.tmps) = false) (h : Goes P main (Rl ty Wg) DC0 Stop n (G (b.at (a.put o.dst undef) (.inRegion ops rest :: k)) cs) w) :
    Goes P main (Rl ty Wg) DC0 Stop (n + 1) (G (b.at a (.inRegion ops (i :: rest) :: k)) cs) w := y_move rfl (fun _ => stepG_unwanted ho hw) h
def calls : Op → Bool
  | .call _ => true
  | .defer _ => true
  | _ => false
def noBool : Op → Bool
  | .binOp .lss _ _ _ _ | .binOp .gtr _ _ _ _ | .binOp .eql _ _ _ _ | .binOp .neq _ _ _ _ | .pick _ _ _ | .move _ | .assign _ | .unOp _ _ _ => false
  | _ => true
theorem y_value (v : Value) {ops : Array Oper} {i : Nat} {rest : List Nat} {o : Oper} (ho : ops[i]? = some o) (hc : calls o.op = false) (hw : Region.wanted o (yielded ops a.tmps) = true) (hk : b.kind ≠ .early)
    (hv : ∀ w₁ : World, (execOp a.eval o).run P w₁ = .ok (.value v) w₁ ∧ (execOp a.eval o).events P w₁ #[] = #[]) (h : Goes P main (Rl ty Wg) DC0 Stop n (G (b.at (a.put o.dst v) (.inRegion ops rest :: k)) cs) w) :
    Goes P main (Rl ty Wg) DC0 Stop (n + 1) (G (b.at a (.inRegion ops (i :: rest) :: k)) cs) w := y_move rfl (fun w₁ => by rw [stepG_value ho hw hk (hv w₁).1, listed_nil (hv w₁).2]) h
theorem y_valueI (v : Value) {ops : Array Oper} {i : Nat} {rest : List Nat} {o : Oper} (ho : ops[i]? = some o) (hc : (calls o.op || !noBool o.op) = false) (hw : Region.wanted o (yielded ops a.tmps) = true) (hk : b.kind ≠ .early)
    (hv : ∀ w₁ : World, (execOp a.eval o).run P w₁ = .ok (.value v) w₁ ∧ (execOp a.eval o).events P w₁ #[] = #[]) (h : Goes P main (Rl ty Wg) DC0 Stop n (G (b.at (a.put o.dst v) (.inRegion ops rest :: k)) cs) w) :
    Goes P main (Rl ty Wg) DC0 Stop (n + 1) (G (b.at a (.inRegion ops (i :: rest) :: k)) cs) w := y_move rfl (fun w₁ => by rw [stepG_value ho hw hk (hv w₁).1, listed_nil (hv w₁).2]) h
end
section
variable {P : Program} {n d : Nat} {b b₀ : Frame} {a a₀ : Act} {k todo : List Item} {cs : List Frame}
theorem z_seq {x y : Code} (h : QuitsD P n d (G (b.at a (.code x :: .code y :: k)) cs)) : QuitsD P (n + 1) d (G (b.at a (.code (.seq x y) :: k)) cs) := .ctl rfl (fun _ => stepG_seq) h
theorem z_region {id : Nat} {ops : Array Oper} (h : QuitsD P n d (G (b.at a (.inRegion ops (List.range ops.size) :: k)) cs)) : QuitsD P (n + 1) d (G (b.at a (.code (.region id ops false) :: k)) cs) := .ctl rfl (fun _ => stepG_region) h
theorem z_region_end {ops : Array Oper} (h : QuitsD P n d (G (b.at a k) cs)) : QuitsD P (n + 1) d (G (b.at a (.inRegion ops [] :: k)) cs) := .ctl rfl (fun _ => stepG_region_end) h
theorem z_code_skip (h : QuitsD P n d (G (b.at a k) cs)) : QuitsD P (n + 1) d (G (b.at a (.code .skip :: k)) cs) := .ctl rfl (fun _ => stepG_skip) h
theorem z_block {id : Nat} {c : Code} (h : QuitsD P n d (G (b.at a (.code c :: .inBlock id :: k)) cs)) : QuitsD P (n + 1) d (G (b.at a (.code (.block id c) :: k)) cs) := .ctl rfl (fun _ => stepG_block) h
theorem z_loop {c : Code} (h : QuitsD P n d (G (b.at a (.code c :: .inLoop c :: k)) cs)) : QuitsD P (n + 1) d (G (b.at a (.code (.loop c) :: k)) cs) := .ctl rfl (fun _ => stepG_loop) h
theorem z_inBlock {id : Nat} (h : QuitsD P n d (G (b.at a k) cs)) : QuitsD P (n + 1) d (G (b.at a (.inBlock id :: k)) cs) := .ctl rfl (fun _ => stepG_inBlock) h
theorem z_inLoop {c : Code} (h : QuitsD P n d (G (b.at a (.code c :: .inLoop c :: k)) cs)) : QuitsD P (n + 1) d (G (b.at a (.inLoop c :: k)) cs) := .ctl rfl (fun _ => stepG_inLoop) h
theorem z_exit0 {id : Nat} (h : QuitsD P n d (G (b.at a (.code (.exit id) :: k)) cs)) : QuitsD P n d (G (b.at a (.code (.exit id) :: k)) cs) := h
theorem z_cond {c : Operand} {x y : Code} (h : QuitsD P n d (G (b.at a (.code (.cond c x y) :: k)) cs)) : QuitsD P n d (G (b.at a (.code (.cond c x y) :: k)) cs) := h
theorem z_condT {c : Operand} {x y : Code} (e : a.eval c = .bool true) (h : QuitsD P n d (G (b.at a (.code x :: k)) cs)) : QuitsD P (n + 1) d (G (b.at a (.code (.cond c x y) :: k)) cs) := .ctl rfl (fun _ => stepG_cond e) h
theorem z_condF {c : Operand} {x y : Code} (e : a.eval c = .bool false) (h : QuitsD P n d (G (b.at a (.code y :: k)) cs)) : QuitsD P (n + 1) d (G (b.at a (.code (.cond c x y) :: k)) cs) := .ctl rfl (fun _ => stepG_cond e) h
theorem z_end (h : QuitsD P n d (G { b.at a [] with mode := .returning } cs)) : QuitsD P (n + 1) d (G (b.at a []) cs) := .ctl rfl (fun _ => stepG_end) h
theorem z_ret (h : QuitsD P n d (G { b.at a (.code .ret :: k) with mode := .returning } cs)) : QuitsD P (n + 1) d (G (b.at a (.code .ret :: k)) cs) := .ctl rfl (fun _ => stepG_ret') h
theorem z_op {ops : Array Oper} {i : Nat} {rest : List Nat} (h : QuitsD P n d (G (b.at a (.inRegion ops (i :: rest) :: k)) cs)) : QuitsD P n d (G (b.at a (.inRegion ops (i :: rest) :: k)) cs) := h
theorem z_skip {ops : Array Oper} {i : Nat} {rest : List Nat} {o : Oper} (ho : ops[i]? = some o) (hw : Region.wanted o (yielded ops a.tmps) = false) (h : QuitsD P n d (G (b.at (a.put o.dst undef) (.inRegion ops rest :: k)) cs)) :
    QuitsD P (n + 1) d (G (b.at a (.inRegion ops (i :: rest) :: k)) cs) := .ctl rfl (fun _ => stepG_unwanted ho hw) h
theorem z_value (v : Value) {ops : Array Oper} {i : Nat} {rest : List Nat} {o : Oper} (ho : ops[i]? = some o) (hc : calls o.op = false) (hw : Region.wanted o (yielded ops a.tmps) = true) (hk : b.kind ≠ .early)
    (hv : ∀ w₁ : World, (execOp a.eval o).run P w₁ = .ok (.value v) w₁ ∧ (execOp a.eval o).events P w₁ #[] = #[]) (h : QuitsD P n d (G (b.at (a.put o.dst v) (.inRegion ops rest :: k)) cs)) :
    QuitsD P (n + 1) d (G (b.at a (.inRegion ops (i :: rest) :: k)) cs) := .value v ho hw hk (fun w => (hv w).1) (fun w => (hv w).2) h
theorem QuitsD.ge {g : Goroutine} {m : Nat} (h : QuitsD P n d g) (hm : n ≤ m) : QuitsD P m d g := by
  induction m generalizing n d g with
  | zero =>
    obtain rfl : n = 0 := by omega
    exact h
  | succ m ih =>
    cases n with
    | zero => exact .inl h
    | succ n => exact h.imp id fun ⟨a, g', es, b, c, e⟩ => ⟨a, g', es, b, c, ih e (by omega)⟩
theorem z_valueI (v : Value) {ops : Array Oper} {i : Nat} {rest : List Nat} {o : Oper} (ho : ops[i]? = some o) (hc : (calls o.op || !noBool o.op) = false) (hw : Region.wanted o (yielded ops a.tmps) = true) (hk : b.kind ≠ .early)
    (hv : ∀ w₁ : World, (execOp a.eval o).run P w₁ = .ok (.value v) w₁ ∧ (execOp a.eval o).events P w₁ #[] = #[]) (h : QuitsD P n d (G (b.at (a.put o.dst v) (.inRegion ops rest :: k)) cs)) :
    QuitsD P (n + 1) d (G (b.at a (.inRegion ops (i :: rest) :: k)) cs) := .value v ho hw hk (fun w => (hv w).1) (fun w => (hv w).2) h
end
end Go.Proofs.Ytkfmphlnpmemdaa.Sx
