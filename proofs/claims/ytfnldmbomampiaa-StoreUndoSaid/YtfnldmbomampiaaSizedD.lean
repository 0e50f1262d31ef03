/- Readings that a row's frame may ask for: deeds, lists of them, strings. -/
import Derived.Test.YtfnldmbomampiaaSized
namespace Go.Proofs.Ytfnldmbomampiaa.Sx
open Go Go.ChangeShapes Go.WideShapes Go.RowKit Go.Deep
set_option linter.unusedVariables false
set_option linter.unusedSimpArgs false
def DeedIn (c : Deed) : Prop := InI c.kind ∧ InI c.a ∧ InI c.b ∧ InI c.n ∧ c.name.size ≤ maxLen
section
variable {H : Type} {enc : TypeId × Value → H} {P : Program} {W : World} {base : Nat}
theorem trod_struct5 {t : TypeId} {f0 f1 f2 f3 f4 : Field} {spare : Nat → Bool} {held : Bool} {fuel : Nat} {cs : List Value} {x : DataW H × List MemPlace} (ht : P.underlying t = some (.struct #[f0, f1, f2, f3, f4])) (h : DataW.trod enc P W base spare held fuel t cs = some x) :
    ∃ y0 y1 y2 y3 y4 n, cs.length = P.cellsOf t ∧ DataW.trod enc P W base spare held n f0.type ((cs.drop f0.offset).take (P.cellsOf f0.type)) = some y0 ∧
      DataW.trod enc P W base spare held n f1.type ((cs.drop f1.offset).take (P.cellsOf f1.type)) = some y1 ∧ DataW.trod enc P W base spare held n f2.type ((cs.drop f2.offset).take (P.cellsOf f2.type)) = some y2 ∧
      DataW.trod enc P W base spare held n f3.type ((cs.drop f3.offset).take (P.cellsOf f3.type)) = some y3 ∧ DataW.trod enc P W base spare held n f4.type ((cs.drop f4.offset).take (P.cellsOf f4.type)) = some y4 := by
  obtain ⟨xs, n, _, rfl, hl, hlen, hf⟩ := DataW.trod_struct ht h
  match xs, hlen with
  | [y0, y1, y2, y3, y4], _ => exact ⟨y0, y1, y2, y3, y4, n, hl, by simpa using hf 0 f0 rfl, by simpa using hf 1 f1 rfl, by simpa using hf 2 f2 rfl, by simpa using hf 3 f3 rfl, by simpa using hf 4 f4 rfl⟩
theorem deed_of {e i st : TypeId} {f0 f1 f2 f3 f4 : Field} {fuel : Nat} {cs : List Value} {x : DataW H × List MemPlace} (he : P.underlying e = some (.struct #[f0, f1, f2, f3, f4])) (hone : oneCellFields P #[f0, f1, f2, f3, f4] = true) (hC : P.cellsOf e = 5)
    (hi : P.underlying i = some (.int .i64)) (hst : P.underlying st = some .string) (e0 : f0.type = i) (e1 : f1.type = i) (e2 : f2.type = i) (e3 : f3.type = i) (e4 : f4.type = st)
    (hd : DataW.trod enc P W base (fun _ => true) true fuel e cs = some x) :
    ∃ c : Deed, cs = [.int .i64 c.kind, .int .i64 c.a, .int .i64 c.b, .int .i64 c.n, .string c.name] ∧ DeedIn c := by
  obtain ⟨y0, y1, y2, y3, y4, n', hcl, g0, g1, g2, g3, g4⟩ := trod_struct5 he hd
  rw [hC] at hcl
  obtain ⟨o0, k0⟩ := hone_of hone 0 f0 rfl
  obtain ⟨o1, k1⟩ := hone_of hone 1 f1 rfl
  obtain ⟨o2, k2⟩ := hone_of hone 2 f2 rfl
  obtain ⟨o3, k3⟩ := hone_of hone 3 f3 rfl
  obtain ⟨o4, k4⟩ := hone_of hone 4 f4 rfl
  match cs, hcl with
  | [c0, c1, c2, c3, c4], _ =>
    rw [o0, k0, e0] at g0
    rw [o1, k1, e1] at g1
    rw [o2, k2, e2] at g2
    rw [o3, k3, e3] at g3
    rw [o4, k4, e4] at g4
    obtain ⟨z0, q0, _, w0⟩ := DataW.trod_int hi g0
    obtain ⟨z1, q1, _, w1⟩ := DataW.trod_int hi g1
    obtain ⟨z2, q2, _, w2⟩ := DataW.trod_int hi g2
    obtain ⟨z3, q3, _, w3⟩ := DataW.trod_int hi g3
    obtain ⟨z4, q4, _, w4⟩ := DataW.trod_string hst g4
    have r0 : c0 = .int .i64 z0 := by simpa using q0
    have r1 : c1 = .int .i64 z1 := by simpa using q1
    have r2 : c2 = .int .i64 z2 := by simpa using q2
    have r3 : c3 = .int .i64 z3 := by simpa using q3
    have r4 : c4 = .string z4 := by simpa using q4
    subst r0 r1 r2 r3 r4
    exact ⟨⟨z0, z1, z2, z3, z4⟩, rfl, inI_of w0, inI_of w1, inI_of w2, inI_of w3, w4⟩
def deedC (c : Deed) : Nat → Value := fun j => ([Value.int .i64 c.kind, .int .i64 c.a, .int .i64 c.b, .int .i64 c.n, .string c.name] : List Value).getD j undef
theorem deedC_rd {I : Nat → Prop} {w : World} (c : Deed) : ∀ j, j < 5 → (deedC c j).oneCell' = true ∧ Rd I w (El.enc c j) (deedC c j) := fun j hj => by
  match j, hj with
  | 0, _ => exact ⟨rfl, rfl⟩
  | 1, _ => exact ⟨rfl, rfl⟩
  | 2, _ => exact ⟨rfl, rfl⟩
  | 3, _ => exact ⟨rfl, rfl⟩
  | 4, _ => exact ⟨rfl, rfl⟩
theorem rd_deedL {t e i st : TypeId} {f0 f1 f2 f3 f4 : Field} {fuel : Nat} {v : Value} {x : DataW H × List MemPlace} (ht : P.underlying t = some (.slice e)) (he : P.underlying e = some (.struct #[f0, f1, f2, f3, f4])) (hone : oneCellFields P #[f0, f1, f2, f3, f4] = true) (hC : P.cellsOf e = 5)
    (hi : P.underlying i = some (.int .i64)) (hst : P.underlying st = some .string) (e0 : f0.type = i) (e1 : f1.type = i) (e2 : f2.type = i) (e3 : f3.type = i) (e4 : f4.type = st)
    (h : DataW.trod enc P W base (fun _ => true) true fuel t [v] = some x) : ∃ l : List Deed, Rd (Old W) W (slD l) v ∧ (∀ a, a ∈ l → DeedIn a) ∧ l.length ≤ maxLen := by
  rcases open_slice ht h with ⟨hcs, _⟩ | ⟨a, len, cap, m, n, D, Pl, hcs, hb, hl, hm, hmm, _, hel⟩
  · have e1 : v = .slice none 0 0 := by simpa using hcs
    exact ⟨[], ⟨none, 0, e1, Nat.le_refl _, Nat.zero_le _, fun h => absurd h (by simp)⟩, (by intro n hn; cases hn), Nat.zero_le _⟩
  · have ev : v = .slice (some a) len cap := by simpa using hcs
    have hmc : m = cap := by simpa using hmm
    have each : ∀ k, ∃ c : Deed, k < m → (∀ j, j < 5 → W.cell? ((a.add (k * 5)).add j) = some (deedC c j)) ∧ DeedIn c := fun k => by
      by_cases hk : k < m
      · obtain ⟨cs', hc, hd⟩ := hel k hk
        rw [hC] at hc
        obtain ⟨_, hcl, hat⟩ := World.cells?_some hc
        obtain ⟨c, rfl, hin⟩ := deed_of he hone hC hi hst e0 e1 e2 e3 e4 hd
        refine ⟨c, fun _ => ⟨fun j hj => ?_, hin⟩⟩
        have := hat j hj
        match j, hj with
        | 0, _ => simpa [deedC] using this
        | 1, _ => simpa [deedC] using this
        | 2, _ => simpa [deedC] using this
        | 3, _ => simpa [deedC] using this
        | 4, _ => simpa [deedC] using this
      · exact ⟨⟨0, 0, 0, 0, ByteArray.empty⟩, fun h => absurd h hk⟩
    obtain ⟨F, hF⟩ := Classical.axiomOfChoice each
    have hlen : ((List.range len).map F).length = len := by simp
    refine ⟨(List.range len).map F, ?_, fun c hc => ?_, by omega⟩
    · show Rd _ _ (.sl 5 ((List.range len).map F).length (row ((List.range len).map F)).get) _
      rw [hlen]
      refine ⟨some a, cap, ev, hl, hm, fun h0 => ?_⟩
      have hz := (hF 0 (by omega)).1 0 (by omega)
      have hs := cell_spot hz
      have ea : a = ⟨a.block, a.off, none⟩ := by
        have := hs.1
        simp only [Addr.add, Nat.zero_mul, if_pos] at this
        cases a; simp_all
      refine ⟨a.block, a.off, by rw [← ea], (by have := hs.2; simpa [Addr.add, Old] using this), fun k hk f hf => ?_⟩
      have hz := (hF k (by omega)).1 f hf
      rw [ea, add_flat, add_flat] at hz
      have : ((List.range len).map F).getD k El.d = F k := by simp [hk]
      refine ⟨_, by rw [← hz, Nat.add_assoc], (deedC_rd (I := Old W) (w := W) (F k) f hf).1, ?_⟩
      show Rd _ _ (El.enc (_ : Deed) f) _
      rw [this]
      exact (deedC_rd (F k) f hf).2
    · obtain ⟨k, hk, rfl⟩ := List.mem_map.1 hc
      exact (hF k (by have := List.mem_range.1 hk; omega)).2
theorem rd_deed {e i st : TypeId} {f0 f1 f2 f3 f4 : Field} {r : Reach} {b0 : Nat} {v : Value} {d : DataW H} {p : List MemPlace} (he : P.underlying e = some (.struct #[f0, f1, f2, f3, f4])) (hone : oneCellFields P #[f0, f1, f2, f3, f4] = true) (hC : P.cellsOf e = 5)
    (hi : P.underlying i = some (.int .i64)) (hst : P.underlying st = some .string) (e0 : f0.type = i) (e1 : f1.type = i) (e2 : f2.type = i) (e3 : f3.type = i) (e4 : f4.type = st)
    (hv : Value.okWide P W r b0 e v) (h : DataW.Trod enc P W base (fun _ => true) true e v d p) : ∃ c : Deed, Rd (Old W) W (.ag 5 (El.enc c)) v ∧ DeedIn c := by
  obtain ⟨cs, rfl, hsz⟩ := okWide_struct he hv
  obtain ⟨fuel, hf⟩ := h
  obtain ⟨c, hc, hin⟩ := deed_of he hone hC hi hst e0 e1 e2 e3 e4 hf
  have hcs : cs.toList = [.int .i64 c.kind, .int .i64 c.a, .int .i64 c.b, .int .i64 c.n, .string c.name] := by simpa [Value.cells] using hc
  refine ⟨c, ⟨cs, rfl, hsz.trans hC, fun j hj => ⟨deedC c j, ?_, deedC_rd c j hj⟩⟩, hin⟩
  have e : cs[j]? = cs.toList[j]? := by simp
  rw [e, hcs]
  match j, hj with
  | 0, _ => rfl
  | 1, _ => rfl
  | 2, _ => rfl
  | 3, _ => rfl
  | 4, _ => rfl
theorem rd_str {t : TypeId} {r : Reach} {b0 : Nat} {v : Value} {d : DataW H} {p : List MemPlace} (ht : P.underlying t = some .string) (hv : Value.okWide P W r b0 t v) (h : DataW.Trod enc P W base (fun _ => true) true t v d p) : ∃ z : ByteArray, v = .string z ∧ z.size ≤ maxLen := by
  obtain ⟨s, rfl⟩ := okWide_string ht hv
  obtain ⟨fuel, hf⟩ := h
  obtain ⟨z, hz, _, hl⟩ := DataW.trod_string ht hf
  have e : s = z := by simpa [Value.cells] using hz
  subst e
  exact ⟨s, rfl, hl⟩
end
end Go.Proofs.Ytfnldmbomampiaa.Sx
