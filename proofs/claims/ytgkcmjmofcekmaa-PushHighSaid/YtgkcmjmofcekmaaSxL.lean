/- The walk's rules for slices.Delete: a slice that is cut down in its place. Plain laws over any program. -/
import Derived.Test.YtgkcmjmofcekmaaSxK
namespace Go.Proofs.Ytgkcmjmofcekmaa.Sx
open Go
set_option linter.unusedVariables false
set_option linter.unusedSimpArgs false
theorem DLe.exact {β : BK} {size len m : Nat} {ad : Option Addr} (hE : Exact β len ad m) : DLe (.v (.slice ad len m)) (.own β size 0 len) := fun I w v hv =>
  ⟨ad, m, hv, hE.le, hE.most, by have := hE.fit; omega, fun h => by rw [hE.place h]; simp⟩
theorem Exact.cut {β : BK} {len n m : Nat} {ad : Option Addr} (hE : Exact β len ad m) (h : n ≤ m) : Exact β n ad m := ⟨h, hE.most, hE.fit, hE.place⟩
section
variable {X : Cx} {s : St} {H0 : List HL} {d : Tmp} {ty : TypeId} {pos : String} {aft : Array Edge} {gd : Option (Nat × Bool)} {x y z : Operand} {q : D}
theorem ps_slice3J {t e : TypeId} {size len m i j : Nat} {ag : Bool} {ad : Option Addr} {k1 k2 k3 : IntKind} {lo hi mx : Operand} [ht : SlT X.P t e] [he : TI X.P e size ag] (hx : s.ev x = some (.v (.slice ad len m)))
    (hlo : s.ev lo = some (.v (.int k1 (i : Int)))) (hhi : s.ev hi = some (.v (.int k2 (j : Int)))) (hmx : s.ev mx = some (.v (.int k3 (len : Int)))) (h1 : i ≤ j) (h2 : j ≤ len) (h3 : len ≤ m) (hd : Nat.blt d X.nt = true) :
    PureStep X H0 ⟨some d, .slice t x (some lo) (some hi) (some mx), ty, pos, aft, none⟩ s (s.put d .junk) :=
  ps_of hd fun _ a _ hs => by
    have hv : a.eval x = .slice ad len m := hs.ev hx
    have e1 : a.eval lo = .int k1 (i : Int) := hs.ev hlo
    have e2 : a.eval hi = .int k2 (j : Int) := hs.ev hhi
    have e3 : a.eval mx = .int k3 (len : Int) := hs.ev hmx
    have g1 : ¬ m < len := by omega
    have g2 : ¬ len < j := by omega
    have g3 : ¬ j < i := by omega
    refine ⟨.slice (if len = i then ad else ad.map (·.add (i * size))) (j - i) (len - i), fun w' _ => ?_, trivial⟩
    simp [execOp, Instr.sliceAt, Instr.slice, run_underlying ht.h, Instr.sliceBounds, Instr.sliceBound, asIntOf, he.size, hv, e1, e2, e3, h1, h2, h3, g1, g2, g3]
theorem ps_sliceTo {β : BK} {t e : TypeId} {size len m j : Nat} {ag : Bool} {ad : Option Addr} {kd : IntKind} [ht : SlT X.P t e] [he : TI X.P e size ag] (hE : Exact β len ad m) (hx : s.ev x = some (.v (.slice ad len m)))
    (hy : s.ev y = some (.v (.int kd (j : Int)))) (hj : j ≤ m) (hd : Nat.blt d X.nt = true) : PureStep X H0 ⟨some d, .slice t x none (some y) none, ty, pos, aft, none⟩ s (s.put d (.v (.slice ad j m))) :=
  ps_of hd fun _ a _ hs => by
    have hv : a.eval x = .slice ad len m := hs.ev hx
    have e1 : a.eval y = .int kd (j : Int) := hs.ev hy
    have := fun w' => run_slicing (P := X.P) (w := w') ht.h he (a := ad) (len := len) (cap := m) (l := 0) (h := j) (lo := none) (hi := some (.int kd j)) (.inl ⟨rfl, rfl⟩) (.inr ⟨kd, rfl⟩) (Nat.zero_le _) hj
    have ead : (if m = 0 then ad else ad.map (·.add (0 * size))) = ad := by
      split
      · rfl
      · rw [hE.place (by omega)]; simp [addr_add]
    refine ⟨.slice (if m = 0 then ad else ad.map (·.add (0 * size))) (j - 0) (m - 0), fun w' _ => by simp only [execOp, hv, Option.map_none, Option.map_some, e1, this w', Sem.run_bind, Result.andThen_ok, Sem.run_pure], ?_⟩
    rw [ead]; rfl
theorem ps_sliceOff {β : BK} {t e : TypeId} {size len m l h : Nat} {ag : Bool} {ad : Option Addr} {kd : IntKind} {lo : Operand} {hi : Option Operand} [ht : SlT X.P t e] [he : TI X.P e size ag] (hE : Exact β len ad m) (hx : s.ev x = some (.v (.slice ad len m)))
    (hlo : s.ev lo = some (.v (.int kd (l : Int)))) (hhi : Bd s hi h len) (h1 : l ≤ h) (h2 : h ≤ m) (hd : Nat.blt d X.nt = true) : PureStep X H0 ⟨some d, .slice t x (some lo) hi none, ty, pos, aft, none⟩ s (s.put d (.own β size l (h - l))) :=
  ps_of hd fun _ a _ hs => by
    have hv : a.eval x = .slice ad len m := hs.ev hx
    have e1 : a.eval lo = .int kd (l : Int) := hs.ev hlo
    have b2 : (hi.map a.eval = none ∧ h = len) ∨ ∃ kd, hi.map a.eval = some (.int kd (h : Int)) := (hhi.val hs).imp (fun ⟨e1, e2⟩ => ⟨by rw [e1]; rfl, e2⟩) id
    have hmx := hE.most
    have hft := hE.fit
    refine ⟨.slice (if m = l then ad else ad.map (·.add (l * size))) (h - l) (m - l), fun w' _ => by
      have := run_slicing (P := X.P) (w := w') ht.h he (a := ad) (len := len) (cap := m) (l := l) (h := h) (lo := some (.int kd l)) (.inr ⟨kd, rfl⟩) b2 h1 h2
      simp only [execOp, hv, Option.map_none, Option.map_some, e1, this, Sem.run_bind, Result.andThen_ok, Sem.run_pure], _, m - l, rfl, by omega, by omega, by omega, fun h0 => ?_⟩
    rw [if_neg (by omega), hE.place (by omega)]
    simp [addr_add]
theorem ef_appendIn {t e : TypeId} {size bytes : Nat} {zv : Value} [ht : SlT X.P t e] [hz : ZI X.P e size bytes zv] {β : BK} {ad : Option Addr} {i m j n : Nat} {c c' : C} {H : List HL} (hE : Exact β i ad m)
    (hx : s.ev x = some (.v (.slice ad i m))) (hy : s.ev y = some (.own β size j n)) (hm : At s.heap (.one β e size c) (.one β e size c') H) (hcat : Cat size c 0 i n (fun e f => c.get (e + j) f) c')
    (hj : j + n ≤ c.len) (hi : i ≤ c.len) (hroom : i + n ≤ m) (h0 : 0 < m) (hb : (i + n) * bytes ≤ 140737488355328) (hb1 : 1 ≤ bytes) (hd : Nat.blt d X.nt = true) :
    Eff X ⟨some d, .call { callee := .builtin .append, args := #[x, y], argTypes := #[t, t] }, ty, pos, aft, gd⟩ s [.one β e size c] (fun s2 => s2 = ⟨(d, .v (.slice ad (i + n) m)) :: s.env, H⟩) := fun I a w hs Q => by
  obtain ⟨inf, h1, h2, h3, h4, h5, h6⟩ := hz.h
  have hx1 : a.eval x = .slice ad i m := hs.ev hx
  have hft := hE.fit
  have hbok : BOk I w β e size c := hs.heap _ hm.mem
  obtain ⟨a2, c2, hy1, hy2⟩ : ∃ a2 c2, a.eval y = .slice a2 n c2 ∧ (0 < n → ∃ g o, a2 = some ⟨g, o, none⟩ ∧ ∀ e', e' < n → ∀ f, f < size → ∃ u, w.cell? ⟨g, o + (e' * size + f), none⟩ = some u ∧ u.oneCell' = true ∧ Rd I w (c.get (e' + j) f) u) := by
    obtain ⟨a2, c2, q1, q2, q3, q4, q5⟩ := hs.ev hy
    refine ⟨a2, c2, q1, fun hn => ⟨β.b, β.o + j * size, q5 (by omega), fun e' he' f hf => ?_⟩⟩
    obtain ⟨u, hu, ho, hr⟩ := hbok.cell (show e' + j < c.len by omega) hf
    exact ⟨u, by rw [show β.o + j * size + (e' * size + f) = β.o + ((e' + j) * size + f) by rw [Nat.add_mul]; omega]; exact hu, ho, hr⟩
  obtain ⟨olds, o1, o2, o3, o4⟩ : ∃ olds : List Value, olds.length = i * size ∧ (∀ k u, olds[k]? = some u → w.cell? ((⟨β.b, β.o, none⟩ : Addr).add k) = some u) ∧ (∀ u, u ∈ olds → u.oneCell' = true) ∧
      ∀ e', e' < i → ∀ f, f < size → ∃ u, olds[e' * size + f]? = some u ∧ u.oneCell' = true ∧ Rd I w (c'.get e' f) u :=
    list_cells fun e' he' f hf => by
      obtain ⟨u, hu, ho, hr⟩ := hbok.cell (show e' < c.len by omega) hf
      exact ⟨u, hu, ho, by rw [hcat.hold e' f he' hf]; exact hr⟩
  obtain ⟨news, n1, n2, n3, n4⟩ : ∃ news : List Value, news.length = n * size ∧ (0 < n → ∃ g o, a2 = some ⟨g, o, none⟩ ∧ ∀ k u, news[k]? = some u → w.cell? ((⟨g, o, none⟩ : Addr).add k) = some u) ∧ (∀ u, u ∈ news → u.oneCell' = true) ∧
      ∀ e', e' < n → ∀ f, f < size → ∃ u, news[e' * size + f]? = some u ∧ u.oneCell' = true ∧ Rd I w (c'.get (i + e') f) u := by
    rcases Nat.eq_zero_or_pos n with hn0 | hn0
    · subst hn0
      exact ⟨[], by simp, fun h => absurd h (by omega), by simp, fun e' he' => absurd he' (by omega)⟩
    · obtain ⟨g, o, ha, hc⟩ := hy2 hn0
      obtain ⟨vs, v1, v2, v3, v4⟩ := list_cells (get := fun e' f => c'.get (i + e') f) fun e' he' f hf => by
        obtain ⟨u, hu, ho, hr⟩ := hc e' he' f hf
        exact ⟨u, hu, ho, by show Rd I w (c'.get (i + e') f) u; rw [hcat.hnew e' f he' hf]; exact hr⟩
      exact ⟨vs, v1, fun _ => ⟨g, o, ha, v2⟩, v3, v4⟩
  have hpos : 0 < β.s := by omega
  obtain ⟨hnI, hmay, hlt⟩ := hs.own β.b ⟨_, hm.mem, hpos, rfl⟩
  obtain ⟨cs1, e1, e2, e3⟩ := hbok.2 hpos
  have hmc : m * size ≤ β.s * size := Nat.mul_le_mul_right _ hft
  have hrun := run_append_all (P := X.P) (w := w) (ty := ty) ht.h h1 h2 (ad := ad) (cap := m) hE.le hE.place (olds := olds) (by rw [o1, h3]) o2 (a2 := a2) (c2 := c2) (news := news) (by rw [n1, h3]) n2 n3 (by rw [h4]; exact hb) (by rw [h4]; exact hb1)
    (fun _ => ⟨cs1, e1, by rw [e2, h3]; omega⟩)
  have hexec : ∀ v w', (Builtin.append_ #[t, t] ty #[.slice ad i m, .slice a2 n c2]).run X.P w = .ok v w' →
      (execOp a.eval ⟨some d, .call { callee := .builtin .append, args := #[x, y], argTypes := #[t, t] }, ty, pos, aft, gd⟩).run X.P w = .ok (.value v) w' := fun v w' h => by
    simp only [execOp, resolve, invoke, builtin, Sem.run_bind, Sem.run_pure, Result.andThen_ok, List.map_toArray, List.map_cons, List.map_nil, hx1, hy1, h]
  rcases hrun with ⟨_, ⟨hc0, _⟩ | ⟨hc0, cs, hg, hfit, hr⟩⟩ | ⟨hgrow, _⟩
  · omega
  · have hcs : cs1 = cs := by rw [e1] at hg; injection hg with hg; injection hg
    subst hcs
    rw [h3] at hfit hr
    have hmono : ∀ dd u, Rd I w dd u → Rd I (w.setRow β.b (splice cs1 (β.o + i * size) news)) dd u :=
      fun dd u hr => hr.mono (fun _ h => h) (fun b hb => setRow_other w β.b b _ (fun e => hnI (e ▸ hb)))
    have hsame : Same w (w.setRow β.b (splice cs1 (β.o + i * size) news)) (HL.one β e size c).fp := (Same.setRow w β.b _).mono fun i hi => ⟨hpos, hi⟩
    refine wp_val (hexec _ _ hr) ⟨hsame.mono fun i hi => fps_one hi, _, rfl, ?_⟩
    have hy' : (HL.one β e size c').ok I (w.setRow β.b (splice cs1 (β.o + i * size) news)) := by
      refine ⟨by rw [hcat.hlen]; omega, fun _ => ⟨splice cs1 (β.o + i * size) news, setRow_heap w β.b cs1 _ e (0, 0) hg, by rw [size_splice _ _ _ hfit, e2], fun e' he' f hf => ?_⟩⟩
      rw [hcat.hlen] at he'
      rw [get_splice _ _ _ hfit]
      by_cases hl : e' < i
      · obtain ⟨u, hu, ho, hrr⟩ := o4 e' hl f hf
        have h7 := le_cells (s := i) (size := size) (e := e') (f := f + 1) hl (by omega)
        refine ⟨u, ?_, ho, hmono _ _ hrr⟩
        rw [if_neg (by omega)]
        have h8 := o2 _ u hu
        rw [addr_add, cell_of_row w β.b _ cs1 e (0, 0) hg] at h8
        exact h8
      · obtain ⟨u, hu, ho, hrr⟩ := n4 (e' - i) (by omega) f hf
        have hle : i * size ≤ e' * size := Nat.mul_le_mul_right _ (by omega)
        have h9 : (e' - i) * size + f < news.length := (List.getElem?_eq_some_iff.1 hu).1
        have h10 : (e' - i) * size = e' * size - i * size := Nat.sub_mul ..
        refine ⟨u, ?_, ho, hmono _ _ (by rw [show i + (e' - i) = e' by omega] at hrr; exact hrr)⟩
        rw [if_pos ⟨by omega, by omega⟩, show β.o + (e' * size + f) - (β.o + i * size) = (e' - i) * size + f by omega]
        exact hu
    exact (hs.turn hm hsame hy' fun b hb => ⟨.inl ⟨hpos, hb.2⟩, by rw [hb.2]; simpa using hlt⟩).put (blt_lt hd) rfl
  · omega
theorem ef_clear {t e : TypeId} {size bytes : Nat} {zv : Value} [ht : SlT X.P t e] [hz : ZI X.P e size bytes zv] {β : BK} {r n : Nat} {c : C} {H : List HL} (hx : s.ev x = some (.own β size r n)) (hm : At s.heap (.one β e size c) (.one β e size c) H) (hr : c.len ≤ r) (hsz : 0 < size) :
    Eff X ⟨none, .call { callee := .builtin .clear, args := #[x], argTypes := #[t] }, ty, pos, aft, gd⟩ s [.one β e size c] (fun s2 => s2 = ⟨s.env, H⟩) := fun I a w hs Q => by
  obtain ⟨inf, h1, h2, h3, h4, h5, h6⟩ := hz.h
  obtain ⟨ad, cap, hx1, g1, g2, g3, g4⟩ := hs.ev hx
  have hb : BOk I w β e size c := hs.heap _ hm.mem
  rcases Nat.eq_zero_or_pos n with hn | hn
  · subst hn
    have hexec : (execOp a.eval ⟨none, .call { callee := .builtin .clear, args := #[x], argTypes := #[t] }, ty, pos, aft, gd⟩).run X.P w = .ok (.value (.tuple #[])) w := by
      have hrun : (Builtin.clear_ #[t] ty #[.slice ad 0 cap]).run X.P w = .ok (.tuple #[]) w := by
        cases ad <;> simp [Builtin.clear_, run_underlying ht.h]
      simp only [execOp, resolve, invoke, builtin, Sem.run_bind, Sem.run_pure, Result.andThen_ok, List.map_toArray, List.map_cons, List.map_nil, hx1, hrun]
    refine wp_val hexec ⟨Same.refl _ _, _, rfl, ?_⟩
    exact hs.turn (w' := w) hm (Same.refl _ _) hb fun b hb => ⟨.inl hb, by
      have := hs.own b ⟨_, hm.mem, hb⟩
      omega⟩
  · have hpos : 0 < β.s := by omega
    have hown := hs.own β.b ⟨_, hm.mem, hpos, rfl⟩
    obtain ⟨cs, k1, k2, k3⟩ := hb.2 hpos
    have hzs : (Builtin.zeroCells zv.cells n).size = n * size := by rw [size_zeroCells, h5]
    have hone : ∀ u, u ∈ (Builtin.zeroCells zv.cells n).toList → u.oneCell' = true := fun u hu => by
      simp only [Builtin.zeroCells, Array.toList_map, List.mem_map, Array.toList_range, List.mem_range] at hu
      obtain ⟨k, hk, rfl⟩ := hu
      have hlt : k % zv.cells.size < zv.cells.size := Nat.mod_lt _ (by omega)
      rw [getElem!_pos zv.cells _ hlt]
      exact h6 _ (by simp)
    have hfit : β.o + r * size + (Builtin.zeroCells zv.cells n).toList.length ≤ cs.size := by
      have : (r + n) * size ≤ β.s * size := Nat.mul_le_mul_right _ (by omega)
      rw [Nat.add_mul] at this
      rw [Array.length_toList, hzs, k2]; omega
    have hst := run_storeCells_at X.P β.b (β.o + r * size) e (Builtin.zeroCells zv.cells n).toList 0 cs w k1 (by simpa using hfit) hone
    simp only [Nat.add_zero] at hst
    have had := g4 (by omega)
    have hrun : (Builtin.clear_ #[t] ty #[.slice ad n cap]).run X.P w = .ok (.tuple #[]) (w.setRow β.b (splice cs (β.o + r * size) (Builtin.zeroCells zv.cells n).toList)) := by
      rw [had]
      obtain ⟨n', rfl⟩ : ∃ n', n = n' + 1 := ⟨n - 1, by omega⟩
      simp [Builtin.clear_, run_underlying ht.h, zeroValue, typeInfo, h1, h2, hst, splice]
    have hexec : (execOp a.eval ⟨none, .call { callee := .builtin .clear, args := #[x], argTypes := #[t] }, ty, pos, aft, gd⟩).run X.P w = .ok (.value (.tuple #[])) (w.setRow β.b (splice cs (β.o + r * size) (Builtin.zeroCells zv.cells n).toList)) := by
      simp only [execOp, resolve, invoke, builtin, Sem.run_bind, Sem.run_pure, Result.andThen_ok, List.map_toArray, List.map_cons, List.map_nil, hx1, hrun]
    have hsame : Same w (w.setRow β.b (splice cs (β.o + r * size) (Builtin.zeroCells zv.cells n).toList)) (HL.one β e size c).fp := (Same.setRow w β.b _).mono fun i hi => ⟨hpos, hi⟩
    refine wp_val hexec ⟨hsame.mono fun i hi => fps_one hi, _, rfl, ?_⟩
    have hb' : (HL.one β e size c).ok I (w.setRow β.b (splice cs (β.o + r * size) (Builtin.zeroCells zv.cells n).toList)) := by
      refine ⟨hb.1, fun _ => ⟨_, setRow_heap w β.b cs _ e (0, 0) k1, by rw [size_splice _ _ _ hfit, k2], fun e' he' f hf => ?_⟩⟩
      obtain ⟨u, hu, ho, hrr⟩ := k3 e' he' f hf
      have h7 := le_cells (s := r) (size := size) (e := e') (f := f + 1) (by omega) (by omega)
      refine ⟨u, ?_, ho, hrr.mono (fun _ h => h) (fun b hb => setRow_other w β.b b _ (fun e => hown.1 (e ▸ hb)))⟩
      rw [get_splice _ _ _ hfit, if_neg (by omega)]
      exact hu
    exact hs.turn hm hsame hb' fun b hb => ⟨.inl hb, by rw [hb.2]; simpa using hown.2.2⟩
end
/-! ### regions that draw: a call that makes rows data for good, and what comes behind it -/
/-- A step whose value no memory decides. -/
def PureV (X : Cx) (o : Oper) (s s' : St) : Prop := ∀ I a w, Sat X I s a w → ∃ v, (∀ w' : World, (execOp a.eval o).run X.P w' = .ok (.value v) w') ∧ Sat X I s' (a.put o.dst v) w
structure GoV (X : Cx) (fn : Func) (R : Ending → World → Prop) (all : Array Oper) (p : Plan) (k : List It) (s : St) : Prop where
  run : ∀ (S : World → Prop) I a w fuel listed, Sat X I s a w → S w → Region.noSelect all = true → planOk all p fuel listed = true → wpAnyH X.P .any all (Kont X fn R k) S fuel listed a w
section
variable {X : Cx} {fn : Func} {R : Ending → World → Prop} {k : List It} {s s' : St} {all : Array Oper} {H0 : List HL} {p : Plan} {i : Nat}
variable {d : Tmp} {ty : TypeId} {pos : String} {aft : Array Edge} {x : Operand} {q : D}
theorem pv_of {op : Op} (hd : Nat.blt d X.nt = true) (h : ∀ I a w, Sat X I s a w → ∃ v, (∀ w' : World, (execOp a.eval ⟨some d, op, ty, pos, aft, none⟩).run X.P w' = .ok (.value v) w') ∧ Rd I w q v) :
    PureV X ⟨some d, op, ty, pos, aft, none⟩ s (s.put d q) := fun I a w hs =>
  let ⟨v, h1, h2⟩ := h I a w hs
  ⟨v, h1, hs.put (blt_lt hd) h2⟩
theorem pv_move (hx : s.ev x = some q) (hd : Nat.blt d X.nt = true) : PureV X ⟨some d, .move x, ty, pos, aft, none⟩ s (s.put d q) :=
  pv_of hd fun _ a _ hs => ⟨a.eval x, fun _ => rfl, hs.ev hx⟩
theorem pv_assign (hx : s.ev x = some q) (hd : Nat.blt d X.nt = true) : PureV X ⟨some d, .assign x, ty, pos, aft, none⟩ s (s.put d q) :=
  pv_of hd fun _ a _ hs => ⟨a.eval x, fun _ => rfl, hs.ev hx⟩
theorem pv_extract {n j : Nat} {get : Nat → D} (hx : s.ev x = some (.tp n get)) (hi : Nat.blt j n = true) (hd : Nat.blt d X.nt = true) : PureV X ⟨some d, .extract x j, ty, pos, aft, none⟩ s (s.put d (get j)) :=
  pv_of hd fun _ a _ hs => by
    obtain ⟨vs, hv, _, h⟩ := hs.ev hx
    obtain ⟨u, hu, hr⟩ := h j (blt_lt hi)
    refine ⟨u, fun w' => ?_, hr⟩
    simp [execOp, Instr.extract, hv, hu]
theorem GoV.done (h : GoK X fn R k s) : GoV X fn R all .done k s :=
  ⟨fun S I a w fuel listed hs _ _ hp => wpAnyH_done (by simpa [planOk] using hp) (h.run I a w hs) fuel⟩
theorem GoV.qN {op : Op} [hk : KeepOk X.ds fn (some d)] (hi : all[i]? = some ⟨some d, op, ty, pos, aft, none⟩) (hp : PureV X ⟨some d, op, ty, pos, aft, none⟩ s s') (h : GoV X fn R all p k s') : GoV X fn R all (.q i p) k s :=
  ⟨fun S I a w fuel listed hs hS hns hpl => by
    cases fuel with
    | zero => simp [planOk] at hpl
    | succ f =>
      simp only [planOk, Bool.and_eq_true] at hpl
      obtain ⟨v, h1, h2⟩ := hp I a w hs
      exact wpAnyH_take hi hns hpl.1.2 hpl.1.1 (fun c a w hq => Kont_panic hq) (.inl ⟨by simp [Region.wanted], fun w' _ => h1 w'⟩) hS (h.run S I _ w f _ h2 hS hns hpl.2)⟩
theorem GoP.oneCF {f : FuncId} [hf : FnT X.P f] {xs : List Operand} {ats : Array TypeId} {ds ds' : List D} {Hin rest L rest' r0 : List HL} {post : D → List HL → Prop}
    (hi : all[i]? = some ⟨some d, .call { callee := .value (.func f), args := xs.toArray, argTypes := ats }, ty, pos, aft, none⟩)
    (hx : evL s xs = some ds) (ht : Take s.heap Hin rest) (hL : Take rest L rest') (spec : Does X.P f ds' Hin post) (hl : LendL L ds ds') (hd : Nat.blt d X.nt = true) (hm : ∀ b, fps L b → ¬ X.may b) (ht0 : Take s.heap (Hin ++ H0) r0)
    (h : ∀ r H', post r H' → GoV X fn R all p k ⟨(d, r) :: s.env, H' ++ rest'⟩) : GoP X fn R all H0 (.one i p) k s :=
  ⟨fun I a w wR fuel listed hs hS hH hns hp => by
    cases fuel with
    | zero => simp [planOk] at hp
    | succ fu =>
      simp only [planOk, Bool.and_eq_true, decide_eq_true_eq] at hp
      refine wpAnyH_all hp.1 (by simp) fun i' hi' => ?_
      have : i' = i := by simpa using hi'
      subst this
      unfold wpOp
      have hg : Region.wanted (⟨some d, .call { callee := .value (.func f), args := xs.toArray, argTypes := ats }, ty, pos, aft, none⟩ : Oper) (yielded all a.tmps) = true := by simp [Region.wanted]
      simp only [hi, hg, if_true]
      refine .inl (Oper.wp_mono ?_ (ef_callG true hx ht hL spec hl hd hm I a w hs _))
      rintro a' w' ⟨hsame, s2, ⟨r, H', hpo, e⟩, I', _, h4⟩
      subst e
      have hp2 := ht0.perm
      have hsep := (List.pairwise_append.1 (List.pairwise_append.1 (sep_perm hp2 hs.sep)).1).2.2
      have hwr : ∀ b, fps Hin b → ¬ I b ∧ ¬ fps H0 b := fun b ⟨z, hz, hzb⟩ => ⟨(hs.own b ⟨z, hp2.mem_iff.2 (List.mem_append_left _ (List.mem_append_left _ hz)), hzb⟩).1, fun ⟨z', hz', hzb'⟩ => hsep z hz z' hz' b hzb hzb'⟩
      have hS' : SH I H0 wR w' := fun b hb => by
        refine (hsame.block b ?_ fun hh => ?_).trans (hS b hb)
        · rcases hb with hb | hb
          · exact (hs.imm b hb).1
          · exact hH b hb
        · rcases hb with hb | hb
          · exact (hwr b hh).1 hb
          · exact (hwr b hh).2 hb
      exact ⟨hS', (h r H' hpo).run _ I' a' w' fu _ h4 hS' hns hp.2⟩⟩
end
/-! ### the table of bits.Len -/
def blen (n : Nat) : Nat := if n = 0 then 0 else Nat.log2 n + 1
def len8s : List Int := (List.range 256).map fun j => ((blen j : Nat) : Int)
theorem ps_index8 {X : Cx} {s : St} {H0 : List HL} {d : Tmp} {ty : TypeId} {pos : String} {aft : Array Edge} {x y : Operand} {t : TypeId} {b : ByteArray} {i : Int} {kd : IntKind} (ht : X.P.underlying t = some .string) (hx : s.ev x = some (.v (.string b))) (hy : s.ev y = some (.v (.int kd i)))
    (hb : ((List.range 256).map fun j => (b[j]?).map fun u => ((u.toNat : Nat) : Int)) = len8s.map some) (h : 0 ≤ i ∧ i < 256) (hd : Nat.blt d X.nt = true) : PureStep X H0 ⟨some d, .index t x y, ty, pos, aft, none⟩ s (s.put d (.v (.int .u8 (len8s.getD i.toNat 0)))) :=
  ps_of hd fun _ a _ hs => by
    have e1 : a.eval x = .string b := hs.ev hx
    have e2 : a.eval y = .int kd i := hs.ev hy
    have hj : i.toNat < 256 := by omega
    have h1 : (((List.range 256).map fun j => (b[j]?).map fun u => ((u.toNat : Nat) : Int)))[i.toNat]? = (len8s.map some)[i.toNat]? := by rw [hb]
    have hl : i.toNat < len8s.length := by unfold len8s; rw [List.length_map, List.length_range]; exact hj
    rw [List.getElem?_map, List.getElem?_range hj, List.getElem?_map, List.getElem?_eq_getElem hl] at h1
    simp only [Option.map_some, Option.some.injEq] at h1
    obtain ⟨u, hu, he⟩ : ∃ u, b[i.toNat]? = some u ∧ ((u.toNat : Nat) : Int) = len8s[i.toNat] := by
      cases hc : b[i.toNat]? with
      | none => rw [hc] at h1; cases h1
      | some u => rw [hc] at h1; exact ⟨u, rfl, by simpa using h1⟩
    have hg : len8s.getD i.toNat 0 = ((u.toNat : Nat) : Int) := by rw [List.getD_eq_getElem?_getD, List.getElem?_eq_getElem hl, he]; rfl
    refine ⟨.int .u8 ((u.toNat : Nat) : Int), fun w' _ => ?_, by rw [hg]; rfl⟩
    simp [execOp, Instr.index, asIntOf, e1, e2, run_underlying ht, h.1, hu]
/-- what slices.Delete leaves -/
def del {α : Type} (xs : List α) (i j : Nat) : List α := xs.take i ++ xs.drop j
theorem del_length {α : Type} {xs : List α} {i j : Nat} (hi : i ≤ xs.length) : (del xs i j).length = i + (xs.length - j) := by
  simp [del]; omega
theorem cat_del {α : Type} [El α] {size : Nat} {xs : List α} {i j : Nat} (h1 : i ≤ xs.length) : Cat size (row xs) 0 i (xs.length - j) (fun e f => (row xs).get (e + j) f) (row (del xs i j)) := by
  refine ⟨by simp [del_length h1], fun e f he _ => ?_, fun e f he hf => ?_⟩
  · simp only [row, del, List.getD_eq_getElem?_getD]
    rw [List.getElem?_append_left (by simp; omega), List.getElem?_take, if_pos he, Nat.add_zero]
  · simp only [row, del, List.getD_eq_getElem?_getD]
    rw [List.getElem?_append_right (by simp; omega), List.getElem?_drop]
    have : i + e - (List.take i xs).length = e := by simp; omega
    rw [this, Nat.add_comm]
end Go.Proofs.Ytgkcmjmofcekmaa.Sx
