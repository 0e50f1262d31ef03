import Derived.Test.YtkfmphlnpmemdaaQSxJ
set_option linter.unusedVariables false
set_option linter.unusedSimpArgs false
namespace Go.Proofs.Ytkfmphlnpmemdaa.Sx
open Go
theorem DLe.exact {β : BK} {size len m : Nat} {ad : Option Addr} (hE : Exact β len ad m) : DLe (.v (.slice ad len m)) (.own β size 0 len) := fun I w v hv =>
  ⟨ad, m, hv, hE.le, hE.most, by have := hE.fit; omega, fun h => by rw [hE.place h]; simp⟩
theorem Exact.cut {β : BK} {len n m : Nat} {ad : Option Addr} (hE : Exact β len ad m) (h : n ≤ m) : Exact β n ad m := ⟨h, hE.most, hE.fit, hE.place⟩
section
variable {X : Cx} {s : St} {H0 : List HL} {d : Tmp} {ty : TypeId} {pos : String} {aft : Array Edge} {gd : Option (Nat × Bool)} {x y z : Operand} {q : D}
theorem ps_slice3J {t e : TypeId} {size len m i j : Nat} {ag : Bool} {ad : Option Addr} {k1 k2 k3 : IntKind} {lo hi mx : Operand} [ht : SlT X.P t e] [he : TI X.P e size ag] (hx : s.ev x = some (.v (.slice ad len m)))
    (hlo : s.ev lo = some (.v (.int k1 (i : Int)))) (hhi : s.ev hi = some (.v (.int k2 (j : Int)))) (hmx : s.ev mx = some (.v (.int k3 (len : Int)))) (h1 : i ≤ j) (h2 : j ≤ len) (h3 : len ≤ m) (hd : Nat.blt d X.nt = true) :
    PureStep X H0 ⟨some d, .slice t x (some lo) (some hi) (some mx), ty, pos, aft, none⟩ s (s.put d .junk) :=
  ps_of hd fun _ a _ hs => by
    have hv : a.eval x = .slice ad len m := hs.ev hx
    have e1 : a.eval lo = .int k1 (i : Int) := hs.ev hlo
    have e2 : a.eval hi = .int k2 (j : Int) := hs.ev hhi
    have e3 : a.eval mx = .int k3 (len : Int) := hs.ev hmx
    have g1 : ¬ m < len := by omega
    have g2 : ¬ len < j := by omega
    have g3 : ¬ j < i := by omega
    refine ⟨.slice (if len = i then ad else ad.map (·.add (i * size))) (j - i) (len - i), fun w' _ => ?_, trivial⟩
    simp [execOp, Instr.sliceAt, Instr.slice, run_underlying ht.h, Instr.sliceBounds, Instr.sliceBound, asIntOf, he.size, hv, e1, e2, e3, h1, h2, h3, g1, g2, g3]
theorem ps_sliceTo {β : BK} {t e : TypeId} {size len m j : Nat} {ag : Bool} {ad : Option Addr} {kd : IntKind} [ht : SlT X.P t e] [he : TI X.P e size ag] (hE : Exact β len ad m) (hx : s.ev x = some (.v (.slice ad len m)))
    (hy : s.ev y = some (.v (.int kd (j : Int)))) (hj : j ≤ m) (hd : Nat.blt d X.nt = true) : PureStep X H0 ⟨some d, .slice t x none (some y) none, ty, pos, aft, none⟩ s (s.put d (.v (.slice ad j m))) :=
  ps_of hd fun _ a _ hs => by
    have hv : a.eval x = .slice ad len m := hs.ev hx
    have e1 : a.eval y = .int kd (j : Int) := hs.ev hy
    have := fun w' => run_slicing (P := X.P) (w := w') ht.h he (a := ad) (len := len) (cap := m) (l := 0) (h := j) (lo := none) (hi := some (.int kd j)) (.inl ⟨rfl, rfl⟩) (.inr ⟨kd, rfl⟩) (Nat.zero_le _) hj
    have ead : (if m = 0 then ad else ad.map (·.add (0 * size))) = ad := by
      split
      · rfl
      · rw [hE.place (by omega)]; simp [addr_add]
    refine ⟨.slice (if m = 0 then ad else ad.map (·.add (0 * size))) (j - 0) (m - 0), fun w' _ => by simp only [execOp, hv, Option.map_none, Option.map_some, e1, this w', Sem.run_bind, Result.andThen_ok, Sem.run_pure], ?_⟩
    rw [ead]; rfl
theorem ps_sliceOff {β : BK} {t e : TypeId} {size len m l h : Nat} {ag : Bool} {ad : Option Addr} {kd : IntKind} {lo : Operand} {hi : Option Operand} [ht : SlT X.P t e] [he : TI X.P e size ag] (hE : Exact β len ad m) (hx : s.ev x = some (.v (.slice ad len m)))
    (hlo : s.ev lo = some (.v (.int kd (l : Int)))) (hhi : Bd s hi h len) (h1 : l ≤ h) (h2 : h ≤ m) (hd : Nat.blt d X.nt = true) : PureStep X H0 ⟨some d, .slice t x (some lo) hi none, ty, pos, aft, none⟩ s (s.put d (.own β size l (h - l))) :=
  ps_of hd fun _ a _ hs => by
    have hv : a.eval x = .slice ad len m := hs.ev hx
    have e1 : a.eval lo = .int kd (l : Int) := hs.ev hlo
    have b2 : (hi.map a.eval = none ∧ h = len) ∨ ∃ kd, hi.map a.eval = some (.int kd (h : Int)) := (hhi.val hs).imp (fun ⟨e1, e2⟩ => ⟨by rw [e1]; rfl, e2⟩) id
    have hmx := hE.most
    have hft := hE.fit
    refine ⟨.slice (if m = l then ad else ad.map (·.add (l * size))) (h - l) (m - l), fun w' _ => by
      have := run_slicing (P := X.P) (w := w') ht.h he (a := ad) (len := len) (cap := m) (l := l) (h := h) (lo := some (.int kd l)) (.inr ⟨kd, rfl⟩) b2 h1 h2
      simp only [execOp, hv, Option.map_none, Option.map_some, e1, this, Sem.run_bind, Result.andThen_ok, Sem.run_pure], _, m - l, rfl, by omega, by omega, by omega, fun h0 => ?_⟩
    rw [if_neg (by omega), hE.place (by omega)]
    simp [addr_add]
theorem ef_appendIn {t e : TypeId} {size bytes : Nat} {zv : Value} [ht : SlT X.P t e] [hz : ZI X.P e size bytes zv] {β : BK} {ad : Option Addr} {i m j n : Nat} {c c' : C} {H : List HL} (hE : Exact β i ad m)
    (hx : s.ev x = some (.v (.slice ad i m))) (hy : s.ev y = some (.own β size j n)) (hm : At s.heap (.one β e size c) (.one β e size c') H) (hcat : Cat size c 0 i n (fun e f => c.get (e + j) f) c')
    (hj : j + n ≤ c.len) (hi : i ≤ c.len) (hroom : i + n ≤ m) (h0 : 0 < m) (hb : (i + n) * bytes ≤ 140737488355328) (hb1 : 1 ≤ bytes) (hd : Nat.blt d X.nt = true) :
    Eff X ⟨some d, .call { callee := .builtin .append, args := #[x, y], argTypes := #[t, t] }, ty, pos, aft, gd⟩ s [.one β e size c] (fun s2 => s2 = ⟨(d, .v (.slice ad (i + n) m)) :: s.env, H⟩) := fun I a w hs Q => by
  obtain ⟨inf, h1, h2, h3, h4, h5, h6⟩ := hz.h
  have hx1 : a.eval x = .slice ad i m := hs.ev hx
  have hft := hE.fit
  have hbok : BOk I w β e size c := hs.heap _ hm.mem
  obtain ⟨a2, c2, hy1, hy2⟩ : ∃ a2 c2, a.eval y = .slice a2 n c2 ∧ (0 < n → ∃ g o, a2 = some ⟨g, o, none⟩ ∧ ∀ e', e' < n → ∀ f, f < size → ∃ u, w.cell? ⟨g, o + (e' * size + f), none⟩ = some u ∧ u.oneCell' = true ∧ Rd I w (c.get (e' + j) f) u) := by
    obtain ⟨a2, c2, q1, q2, q3, q4, q5⟩ := hs.ev hy
    refine ⟨a2, c2, q1, fun hn => ⟨β.b, β.o + j * size, q5 (by omega), fun e' he' f hf => ?_⟩⟩
    obtain ⟨u, hu, ho, hr⟩ := hbok.cell (show e' + j < c.len by omega) hf
    exact ⟨u, by rw [show β.o + j * size + (e' * size + f) = β.o + ((e' + j) * size + f) by rw [Nat.add_mul]; omega]; exact hu, ho, hr⟩
  obtain ⟨olds, o1, o2, o3, o4⟩ : ∃ olds : List Value, olds.length = i * size ∧ (∀ k u, olds[k]? = some u → w.cell? ((⟨β.b, β.o, none⟩ : Addr).add k) = some u) ∧ (∀ u, u ∈ olds → u.oneCell' = true) ∧
      ∀ e', e' < i → ∀ f, f < size → ∃ u, olds[e' * size + f]? = some u ∧ u.oneCell' = true ∧ Rd I w (c'.get e' f) u :=
    list_cells fun e' he' f hf => by
      obtain ⟨u, hu, ho, hr⟩ := hbok.cell (show e' < c.len by omega) hf
      exact ⟨u, hu, ho, by rw [hcat.hold e' f he' hf]; exact hr⟩
  obtain ⟨news, n1, n2, n3, n4⟩ : ∃ news : List Value, news.length = n * size ∧ (0 < n → ∃ g o, a2 = some ⟨g, o, none⟩ ∧ ∀ k u, news[k]? = some u → w.cell? ((⟨g, o, none⟩ : Addr).add k) = some u) ∧ (∀ u, u ∈ news → u.oneCell' = true) ∧
      ∀ e', e' < n → ∀ f, f < size → ∃ u, news[e' * size + f]? = some u ∧ u.oneCell' = true ∧ Rd I w (c'.get (i + e') f) u := by
    rcases Nat.eq_zero_or_pos n with hn0 | hn0
    · subst hn0
      exact ⟨[], by simp, fun h => absurd h (by omega), by simp, fun e' he' => absurd he' (by omega)⟩
    · obtain ⟨g, o, ha, hc⟩ := hy2 hn0
      obtain ⟨vs, v1, v2, v3, v4⟩ := list_cells (get := fun e' f => c'.get (i + e') f) fun e' he' f hf => by
        obtain ⟨u, hu, ho, hr⟩ := hc e' he' f hf
        exact ⟨u, hu, ho, by show Rd I w (c'.get (i + e') f) u; rw [hcat.hnew e' f he' hf]; exact hr⟩
      exact ⟨vs, v1, fun _ => ⟨g, o, ha, v2⟩, v3, v4⟩
  have hpos : 0 < β.s := by omega
  obtain ⟨hnI, hmay, hlt⟩ := hs.own β.b ⟨_, hm.mem, hpos, rfl⟩
  obtain ⟨cs1, e1, e2, e3⟩ := hbok.2 hpos
  have hmc : m * size ≤ β.s * size := Nat.mul_le_mul_right _ hft
  have hrun := run_append_all (P := X.P) (w := w) (ty := ty) ht.h h1 h2 (ad := ad) (cap := m) hE.le hE.place (olds := olds) (by rw [o1, h3]) o2 (a2 := a2) (c2 := c2) (news := news) (by rw [n1, h3]) n2 n3 (by rw [h4]; exact hb) (by rw [h4]; exact hb1)
    (fun _ => ⟨cs1, e1, by rw [e2, h3]; omega⟩)
  have hexec : ∀ v w', (Builtin.append_ #[t, t] ty #[.slice ad i m, .slice a2 n c2]).run X.P w = .ok v w' →
      (execOp a.eval ⟨some d, .call { callee := .builtin .append, args := #[x, y], argTypes := #[t, t] }, ty, pos, aft, gd⟩).run X.P w = .ok (.value v) w' := fun v w' h => by
    simp only [execOp, resolve, invoke, builtin, Sem.run_bind, Sem.run_pure, Result.andThen_ok, List.map_toArray, List.map_cons, List.map_nil, hx1, hy1, h]
  rcases hrun with ⟨_, ⟨hc0, _⟩ | ⟨hc0, cs, hg, hfit, hr⟩⟩ | ⟨hgrow, _⟩
  · omega
  · have hcs : cs1 = cs := by rw [e1] at hg; injection hg with hg; injection hg
    subst hcs
    rw [h3] at hfit hr
    have hmono : ∀ dd u, Rd I w dd u → Rd I (w.setRow β.b (splice cs1 (β.o + i * size) news)) dd u :=
      fun dd u hr => hr.mono (fun _ h => h) (fun b hb => setRow_other w β.b b _ (fun e => hnI (e ▸ hb)))
    have hsame : Same w (w.setRow β.b (splice cs1 (β.o + i * size) news)) (HL.one β e size c).fp := (Same.setRow w β.b _).mono fun i hi => ⟨hpos, hi⟩
    refine wp_val (hexec _ _ hr) ⟨hsame.mono fun i hi => fps_one hi, _, rfl, ?_⟩
    have hy' : (HL.one β e size c').ok I (w.setRow β.b (splice cs1 (β.o + i * size) news)) := by
      refine ⟨by rw [hcat.hlen]; omega, fun _ => ⟨splice cs1 (β.o + i * size) news, setRow_heap w β.b cs1 _ e (0, 0) hg, by rw [size_splice _ _ _ hfit, e2], fun e' he' f hf => ?_⟩⟩
      rw [hcat.hlen] at he'
      rw [get_splice _ _ _ hfit]
      by_cases hl : e' < i
      · obtain ⟨u, hu, ho, hrr⟩ := o4 e' hl f hf
        have h7 := le_cells (s := i) (size := size) (e := e') (f := f + 1) hl (by omega)
        refine ⟨u, ?_, ho, hmono _ _ hrr⟩
        rw [if_neg (by omega)]
        have h8 := o2 _ u hu
        rw [addr_add, cell_of_row w β.b _ cs1 e (0, 0) hg] at h8
        exact h8
      · obtain ⟨u, hu, ho, hrr⟩ := n4 (e' - i) (by omega) f hf
        have hle : i * size ≤ e' * size := Nat.mul_le_mul_right _ (by omega)
        have h9 : (e' - i) * size + f < news.length := (List.getElem?_eq_some_iff.1 hu).1
        have h10 : (e' - i) * size = e' * size - i * size := Nat.sub_mul ..
        refine ⟨u, ?_, ho, hmono _ _ (by rw [show i + (e' - i) = e' by omega] at hrr; exact hrr)⟩
        rw [if_pos ⟨by omega, by omega⟩, show β.o + (e' * size + f) - (β.o + i * size) = (e' - i) * size + f by omega]
        exact hu
    exact (hs.turn hm hsame hy' fun b hb => ⟨.inl ⟨hpos, hb.2⟩, by rw [hb.2]; simpa using hlt⟩).put (blt_lt hd) rfl
  · omega
theorem ef_clear {t e : TypeId} {size bytes : Nat} {zv : Value} [ht : SlT X.P t e] [hz : ZI X.P e size bytes zv] {β : BK} {r n : Nat} {c : C} {H : List HL} (hx : s.ev x = some (.own β size r n)) (hm : At s.heap (.one β e size c) (.one β e size c) H) (hr : c.len ≤ r) (hsz : 0 < size) :
    Eff X ⟨none, .call { callee := .builtin .clear, args := #[x], argTypes := #[t] }, ty, pos, aft, gd⟩ s [.one β e size c] (fun s2 => s2 = ⟨s.env, H⟩) := fun I a w hs Q => by
  obtain ⟨inf, h1, h2, h3, h4, h5, h6⟩ := hz.h
  obtain ⟨ad, cap, hx1, g1, g2, g3, g4⟩ := hs.ev hx
  have hb : BOk I w β e size c := hs.heap _ hm.mem
  rcases Nat.eq_zero_or_pos n with hn | hn
  · subst hn
    have hexec : (execOp a.eval ⟨none, .call { callee := .builtin .clear, args := #[x], argTypes := #[t] }, ty, pos, aft, gd⟩).run X.P w = .ok (.value (.tuple #[])) w := by
      have hrun : (Builtin.clear_ #[t] ty #[.slice ad 0 cap]).run X.P w = .ok (.tuple #[]) w := by
        cases ad <;> simp [Builtin.clear_, run_underlying ht.h]
      simp only [execOp, resolve, invoke, builtin, Sem.run_bind, Sem.run_pure, Result.andThen_ok, List.map_toArray, List.map_cons, List.map_nil, hx1, hrun]
    refine wp_val hexec ⟨Same.refl _ _, _, rfl, ?_⟩
    exact hs.turn (w' := w) hm (Same.refl _ _) hb fun b hb => ⟨.inl hb, by
      have := hs.own b ⟨_, hm.mem, hb⟩
      omega⟩
  · have hpos : 0 < β.s := by omega
    have hown := hs.own β.b ⟨_, hm.mem, hpos, rfl⟩
    obtain ⟨cs, k1, k2, k3⟩ := hb.2 hpos
    have hzs : (Builtin.zeroCells zv.cells n).size = n * size := by rw [size_zeroCells, h5]
    have hone : ∀ u, u ∈ (Builtin.zeroCells zv.cells n).toList → u.oneCell' = true := fun u hu => by
      simp only [Builtin.zeroCells, Array.toList_map, List.mem_map, Array.toList_range, List.mem_range] at hu
      obtain ⟨k, hk, rfl⟩ := hu
      have hlt : k % zv.cells.size < zv.cells.size := Nat.mod_lt _ (by omega)
      rw [getElem!_pos zv.cells _ hlt]
      exact h6 _ (by simp)
    have hfit : β.o + r * size + (Builtin.zeroCells zv.cells n).toList.length ≤ cs.size := by
      have : (r + n) * size ≤ β.s * size := Nat.mul_le_mul_right _ (by omega)
      rw [Nat.add_mul] at this
      rw [Array.length_toList, hzs, k2]; omega
    have hst := run_storeCells_at X.P β.b (β.o + r * size) e (Builtin.zeroCells zv.cells n).toList 0 cs w k1 (by simpa using hfit) hone
    simp only [Nat.add_zero] at hst
    have had := g4 (by omega)
    have hrun : (Builtin.clear_ #[t] ty #[.slice ad n cap]).run X.P w = .ok (.tuple #[]) (w.setRow β.b (splice cs (β.o + r * size) (Builtin.zeroCells zv.cells n).toList)) := by
      rw [had]
      obtain ⟨n', rfl⟩ : ∃ n', n = n' + 1 := ⟨n - 1, by omega⟩
      simp [Builtin.clear_, run_underlying ht.h, zeroValue, typeInfo, h1, h2, hst, splice]
    have hexec : (execOp a.eval ⟨none, .call { callee := .builtin .clear, args := #[x], argTypes := #[t] }, ty, pos, aft, gd⟩).run X.P w = .ok (.value (.tuple #[])) (w.setRow β.b (splice cs (β.o + r * size) (Builtin.zeroCells zv.cells n).toList)) := by
      simp only [execOp, resolve, invoke, builtin, Sem.run_bind, Sem.run_pure, Result.andThen_ok, List.map_toArray, List.map_cons, List.map_nil, hx1, hrun]
    have hsame : Same w (w.setRow β.b (splice cs (β.o + r * size) (Builtin.zeroCells zv.cells n).toList)) (HL.one β e size c).fp := (Same.setRow w β.b _).mono fun i hi => ⟨hpos, hi⟩
    refine wp_val hexec ⟨hsame.mono fun i hi => fps_one hi, _, rfl, ?_⟩
    have hb' : (HL.one β e size c).ok I (w.setRow β.b (splice cs (β.o + r * size) (Builtin.zeroCells zv.cells n).toList)) := by
      refine ⟨hb.1, fun _ => ⟨_, setRow_heap w β.b cs _ e (0, 0) k1, by rw [size_splice _ _ _ hfit, k2], fun e' he' f hf => ?_⟩⟩
      obtain ⟨u, hu, ho, hrr⟩ := k3 e' he' f hf
      have h7 := le_cells (s := r) (size := size) (e := e') (f := f + 1) (by omega) (by omega)
      refine ⟨u, ?_, ho, hrr.mono (fun _ h => h) (fun b hb => setRow_other w β.b b _ (fun e => hown.1 (e ▸ hb)))⟩
      rw [get_splice _ _ _ hfit, if_neg (by omega)]
      exact hu
    exact hs.turn hm hsame hb' fun b hb => ⟨.inl hb, by rw [hb.2]; simpa using hown.2.2⟩
end
section
variable {X : Cx} {fn : Func} {R : Ending → World → Prop} {k : List It} {s s' : St} {all : Array Oper} {H0 : List HL} {p : Plan} {i : Nat}
variable {d : Tmp} {ty : TypeId} {pos : String} {aft : Array Edge} {x : Operand} {q : D}
end
def del {α : Type} (xs : List α) (i j : Nat) : List α := xs.take i ++ xs.drop j
theorem del_length {α : Type} {xs : List α} {i j : Nat} (hi : i ≤ xs.length) : (del xs i j).length = i + (xs.length - j) := by
  simp [del]; omega
theorem cat_del {α : Type} [El α] {size : Nat} {xs : List α} {i j : Nat} (h1 : i ≤ xs.length) : Cat size (row xs) 0 i (xs.length - j) (fun e f => (row xs).get (e + j) f) (row (del xs i j)) := by
  refine ⟨by simp [del_length h1], fun e f he _ => ?_, fun e f he hf => ?_⟩
  · simp only [row, del, List.getD_eq_getElem?_getD]
    rw [List.getElem?_append_left (by simp; omega), List.getElem?_take, if_pos he, Nat.add_zero]
  · simp only [row, del, List.getD_eq_getElem?_getD]
    rw [List.getElem?_append_right (by simp; omega), List.getElem?_drop]
    have : i + e - (List.take i xs).length = e := by simp; omega
    rw [this, Nat.add_comm]
end Go.Proofs.Ytkfmphlnpmemdaa.Sx
