import Derived.Test.YtkfmphlnpmemdaaQDat
import Derived.ProofKit
import Derived.Lib.SmallJoins
import Derived.Deep.Slices
import Derived.Deep.Fields
import Derived.Deep.Strs
import Derived.Carry
import Derived.SizedLaws
import Derived.Test.YtkfmphlnpmemdaaRows
import Derived.OpenShut
import Derived.JoinedCond
set_option linter.unusedVariables false
set_option linter.unusedSimpArgs false
namespace Go.Proofs.Ytkfmphlnpmemdaa.Sx
open Go Go.ChangeShapes Go.WideShapes Go.RowKit Go.Deep
def Old (W : World) (b : Nat) : Prop := b < W.heap.size
theorem inI_of {n : Int} (h : (Lit.int .i64 n).wf = true) : InI n := by
  simp only [Lit.wf, Bool.and_eq_true, decide_eq_true_eq] at h
  exact h
theorem cell_spot {W : World} {a : Addr} {v : Value} (h : W.cell? a = some v) : a.spot = none ∧ a.block < W.heap.size := by
  unfold World.cell? at h
  split at h
  · rename_i c _ _ hc
    split at h
    · cases h
    · rename_i hs
      exact ⟨by simpa using hs, (Array.getElem?_eq_some_iff.1 hc).1⟩
  · cases h
theorem add_flat (b q n : Nat) : (⟨b, q, none⟩ : Addr).add n = ⟨b, q + n, none⟩ := by
  unfold Addr.add
  split
  · rename_i h; simp [h]
  · rfl
section
variable {H : Type} {enc : TypeId × Value → H} {P : Program} {W : World} {base : Nat}
end
section
variable {H : Type} {enc : TypeId × Value → H} {P : Program} {W W' : World}
theorem trodAll_stays (hl : laidOutB P = true) (hb : Below W.heap.size W W') : ∀ {ts : List TypeId} {vs : List Value} {ds : List (DataW H)} {ps : List MemPlace}, DataW.TrodAll enc P W 0 (fun _ => true) true ts vs ds ps →
    ts.all (fun t => P.readableRec t && decide (t < P.types.size)) = true → (∀ x ∈ ps, x.block < W.heap.size) → DataW.TrodAll enc P W' 0 (fun b => decide (b < W.heap.size)) true ts vs ds ps
  | [], _, _, _, h, _, _ => by
    obtain ⟨rfl, rfl, rfl⟩ := trodAll_nil h
    exact trodAll_mk0
  | t :: ts, vs, ds, ps, h, ht, hp => by
    obtain ⟨v, vs', d, ds', a, b, rfl, rfl, rfl, h1, h2⟩ := trodAll_cons h
    simp only [List.all_cons, Bool.and_eq_true, decide_eq_true_eq] at ht
    exact ⟨a, b, Below.trod hl ht.1.1 ht.1.2 h1 hb (fun x hx => hp x (List.mem_append_left _ hx)), trodAll_stays hl hb h2 ht.2 (fun x hx => hp x (List.mem_append_right _ hx)), rfl⟩
theorem law_post {f : Func} {s : ChangeSpec} {args : Array Value} {ds gs : List (DataW H)} {p before : List MemPlace} {bt : TypeId} {b : Bool} (hl : laidOutB P = true) (hW : DataW.Whole enc P f.params.toList s.vars false W args.toList ds gs before)
    (hA : DataW.TrodAll enc P W 0 (fun _ => true) true f.params.toList args.toList ds p) (hpb : ∀ x ∈ p, x ∈ before)
    (hb : Below W.heap.size W W') (ht : f.params.toList.all (fun t => P.readableRec t && decide (t < P.types.size)) = true) (hr : f.resultTypes = #[bt]) (hbt : P.underlying bt = some .bool)
    (hs : s.vars = []) (hfn : s.fn H (ds ++ gs) = { results := [.lit (.bool b)], args := ds }) : s.post enc P f false true false false W args (.bool b) W' := by
  refine ⟨ds, gs, before, [], p, [], hW, ?_, ?_, ?_, ?_, fun h => by cases h⟩
  · rw [hfn, hr]
    exact trodAll_mk1 (shut_bool hbt b)
  · rw [hfn]
    exact trodAll_stays hl hb hA ht fun x hx => by simpa using hW.lt x (hpb x hx)
  · rw [hfn, hs]
    rfl
  · exact hb.frame _
end
section
variable {H : Type} {enc : TypeId × Value → H} {P : Program} {W : World} {base : Nat}
end
def DeedIn (c : Deed) : Prop := InI c.kind ∧ InI c.a ∧ InI c.b ∧ InI c.n ∧ c.name.size ≤ maxLen
section
variable {H : Type} {enc : TypeId × Value → H} {P : Program} {W : World} {base : Nat}
theorem trod_struct5 {t : TypeId} {f0 f1 f2 f3 f4 : Field} {spare : Nat → Bool} {held : Bool} {fuel : Nat} {cs : List Value} {x : DataW H × List MemPlace} (ht : P.underlying t = some (.struct #[f0, f1, f2, f3, f4])) (h : DataW.trod enc P W base spare held fuel t cs = some x) :
    ∃ y0 y1 y2 y3 y4 n, cs.length = P.cellsOf t ∧ DataW.trod enc P W base spare held n f0.type ((cs.drop f0.offset).take (P.cellsOf f0.type)) = some y0 ∧
      DataW.trod enc P W base spare held n f1.type ((cs.drop f1.offset).take (P.cellsOf f1.type)) = some y1 ∧ DataW.trod enc P W base spare held n f2.type ((cs.drop f2.offset).take (P.cellsOf f2.type)) = some y2 ∧
      DataW.trod enc P W base spare held n f3.type ((cs.drop f3.offset).take (P.cellsOf f3.type)) = some y3 ∧ DataW.trod enc P W base spare held n f4.type ((cs.drop f4.offset).take (P.cellsOf f4.type)) = some y4 := by
  obtain ⟨xs, n, _, rfl, hl, hlen, hf⟩ := DataW.trod_struct ht h
  match xs, hlen with
  | [y0, y1, y2, y3, y4], _ => exact ⟨y0, y1, y2, y3, y4, n, hl, by simpa using hf 0 f0 rfl, by simpa using hf 1 f1 rfl, by simpa using hf 2 f2 rfl, by simpa using hf 3 f3 rfl, by simpa using hf 4 f4 rfl⟩
theorem deed_of {e i st : TypeId} {f0 f1 f2 f3 f4 : Field} {fuel : Nat} {cs : List Value} {x : DataW H × List MemPlace} (he : P.underlying e = some (.struct #[f0, f1, f2, f3, f4])) (hone : oneCellFields P #[f0, f1, f2, f3, f4] = true) (hC : P.cellsOf e = 5)
    (hi : P.underlying i = some (.int .i64)) (hst : P.underlying st = some .string) (e0 : f0.type = i) (e1 : f1.type = i) (e2 : f2.type = i) (e3 : f3.type = i) (e4 : f4.type = st)
    (hd : DataW.trod enc P W base (fun _ => true) true fuel e cs = some x) :
    ∃ c : Deed, cs = [.int .i64 c.kind, .int .i64 c.a, .int .i64 c.b, .int .i64 c.n, .string c.name] ∧ DeedIn c := by
  obtain ⟨y0, y1, y2, y3, y4, n', hcl, g0, g1, g2, g3, g4⟩ := trod_struct5 he hd
  rw [hC] at hcl
  obtain ⟨o0, k0⟩ := hone_of hone 0 f0 rfl
  obtain ⟨o1, k1⟩ := hone_of hone 1 f1 rfl
  obtain ⟨o2, k2⟩ := hone_of hone 2 f2 rfl
  obtain ⟨o3, k3⟩ := hone_of hone 3 f3 rfl
  obtain ⟨o4, k4⟩ := hone_of hone 4 f4 rfl
  match cs, hcl with
  | [c0, c1, c2, c3, c4], _ =>
    rw [o0, k0, e0] at g0
    rw [o1, k1, e1] at g1
    rw [o2, k2, e2] at g2
    rw [o3, k3, e3] at g3
    rw [o4, k4, e4] at g4
    obtain ⟨z0, q0, _, w0⟩ := DataW.trod_int hi g0
    obtain ⟨z1, q1, _, w1⟩ := DataW.trod_int hi g1
    obtain ⟨z2, q2, _, w2⟩ := DataW.trod_int hi g2
    obtain ⟨z3, q3, _, w3⟩ := DataW.trod_int hi g3
    obtain ⟨z4, q4, _, w4⟩ := DataW.trod_string hst g4
    have r0 : c0 = .int .i64 z0 := by simpa using q0
    have r1 : c1 = .int .i64 z1 := by simpa using q1
    have r2 : c2 = .int .i64 z2 := by simpa using q2
    have r3 : c3 = .int .i64 z3 := by simpa using q3
    have r4 : c4 = .string z4 := by simpa using q4
    subst r0 r1 r2 r3 r4
    exact ⟨⟨z0, z1, z2, z3, z4⟩, rfl, inI_of w0, inI_of w1, inI_of w2, inI_of w3, w4⟩
def deedC (c : Deed) : Nat → Value := fun j => ([Value.int .i64 c.kind, .int .i64 c.a, .int .i64 c.b, .int .i64 c.n, .string c.name] : List Value).getD j undef
theorem deedC_rd {I : Nat → Prop} {w : World} (c : Deed) : ∀ j, j < 5 → (deedC c j).oneCell' = true ∧ Rd I w (El.enc c j) (deedC c j) := fun j hj => by
  match j, hj with
  | 0, _ => exact ⟨rfl, rfl⟩
  | 1, _ => exact ⟨rfl, rfl⟩
  | 2, _ => exact ⟨rfl, rfl⟩
  | 3, _ => exact ⟨rfl, rfl⟩
  | 4, _ => exact ⟨rfl, rfl⟩
theorem rd_deedL {t e i st : TypeId} {f0 f1 f2 f3 f4 : Field} {fuel : Nat} {v : Value} {x : DataW H × List MemPlace} (ht : P.underlying t = some (.slice e)) (he : P.underlying e = some (.struct #[f0, f1, f2, f3, f4])) (hone : oneCellFields P #[f0, f1, f2, f3, f4] = true) (hC : P.cellsOf e = 5)
    (hi : P.underlying i = some (.int .i64)) (hst : P.underlying st = some .string) (e0 : f0.type = i) (e1 : f1.type = i) (e2 : f2.type = i) (e3 : f3.type = i) (e4 : f4.type = st)
    (h : DataW.trod enc P W base (fun _ => true) true fuel t [v] = some x) : ∃ l : List Deed, Rd (Old W) W (slD l) v ∧ (∀ a, a ∈ l → DeedIn a) ∧ l.length ≤ maxLen := by
  rcases open_slice ht h with ⟨hcs, _⟩ | ⟨a, len, cap, m, n, D, Pl, hcs, hb, hl, hm, hmm, _, hel⟩
  · have e1 : v = .slice none 0 0 := by simpa using hcs
    exact ⟨[], ⟨none, 0, e1, Nat.le_refl _, Nat.zero_le _, fun h => absurd h (by simp)⟩, (by intro n hn; cases hn), Nat.zero_le _⟩
  · have ev : v = .slice (some a) len cap := by simpa using hcs
    have hmc : m = cap := by simpa using hmm
    have each : ∀ k, ∃ c : Deed, k < m → (∀ j, j < 5 → W.cell? ((a.add (k * 5)).add j) = some (deedC c j)) ∧ DeedIn c := fun k => by
      by_cases hk : k < m
      · obtain ⟨cs', hc, hd⟩ := hel k hk
        rw [hC] at hc
        obtain ⟨_, hcl, hat⟩ := World.cells?_some hc
        obtain ⟨c, rfl, hin⟩ := deed_of he hone hC hi hst e0 e1 e2 e3 e4 hd
        refine ⟨c, fun _ => ⟨fun j hj => ?_, hin⟩⟩
        have := hat j hj
        match j, hj with
        | 0, _ => simpa [deedC] using this
        | 1, _ => simpa [deedC] using this
        | 2, _ => simpa [deedC] using this
        | 3, _ => simpa [deedC] using this
        | 4, _ => simpa [deedC] using this
      · exact ⟨⟨0, 0, 0, 0, ByteArray.empty⟩, fun h => absurd h hk⟩
    obtain ⟨F, hF⟩ := Classical.axiomOfChoice each
    have hlen : ((List.range len).map F).length = len := by simp
    refine ⟨(List.range len).map F, ?_, fun c hc => ?_, by omega⟩
    · show Rd _ _ (.sl 5 ((List.range len).map F).length (row ((List.range len).map F)).get) _
      rw [hlen]
      refine ⟨some a, cap, ev, hl, hm, fun h0 => ?_⟩
      have hz := (hF 0 (by omega)).1 0 (by omega)
      have hs := cell_spot hz
      have ea : a = ⟨a.block, a.off, none⟩ := by
        have := hs.1
        simp only [Addr.add, Nat.zero_mul, if_pos] at this
        cases a; simp_all
      refine ⟨a.block, a.off, by rw [← ea], (by have := hs.2; simpa [Addr.add, Old] using this), fun k hk f hf => ?_⟩
      have hz := (hF k (by omega)).1 f hf
      rw [ea, add_flat, add_flat] at hz
      have : ((List.range len).map F).getD k El.d = F k := by simp [hk]
      refine ⟨_, by rw [← hz, Nat.add_assoc], (deedC_rd (I := Old W) (w := W) (F k) f hf).1, ?_⟩
      show Rd _ _ (El.enc (_ : Deed) f) _
      rw [this]
      exact (deedC_rd (F k) f hf).2
    · obtain ⟨k, hk, rfl⟩ := List.mem_map.1 hc
      exact (hF k (by have := List.mem_range.1 hk; omega)).2
end
section
variable {H : Type} {enc : TypeId × Value → H} {P : Program} {W : World} {base : Nat}
theorem bulk_one (d : DataW H) : 1 ≤ Rows.uptoBulk d := by
  unfold Rows.uptoBulk; split <;> omega
theorem bulk_len : ∀ l : List (DataW H), l.length ≤ Rows.uptoBulkAll l
  | [] => Nat.zero_le _
  | d :: r => by
    have h1 := bulk_one d
    have h2 := bulk_len r
    unfold Rows.uptoBulkAll
    simp only [List.length_cons]
    omega
theorem bulk_mem : ∀ {l : List (DataW H)} {d : DataW H}, d ∈ l → Rows.uptoBulk d ≤ Rows.uptoBulkAll l
  | [], _, h => absurd h (by simp)
  | e :: r, d, h => by
    unfold Rows.uptoBulkAll
    rcases List.mem_cons.1 h with rfl | h
    · omega
    · have := bulk_mem h; omega
theorem bulk_small {l : List (DataW H)} (h : Rows.uptoSmall H l = true) {d : DataW H} (hd : d ∈ l) : Rows.uptoBulk d ≤ 1048576 := Nat.le_trans (bulk_mem hd) (of_decide_eq_true h)
end
section
variable {H : Type} {enc : TypeId × Value → H} {P : Program} {W : World} {base : Nat}
theorem rd_deedLL {t e i k0 st : TypeId} {f0 f1 f2 f3 f4 : Field} {fuel : Nat} {v : Value} {x : DataW H × List MemPlace} (ht : P.underlying t = some (.slice e)) (he : P.underlying e = some (.slice i)) (hC : P.cellsOf e = 1) (hi : P.underlying i = some (.struct #[f0, f1, f2, f3, f4])) (hone : oneCellFields P #[f0, f1, f2, f3, f4] = true) (hic : P.cellsOf i = 5)
    (hk0 : P.underlying k0 = some (.int .i64)) (hst : P.underlying st = some .string) (e0 : f0.type = k0) (e1 : f1.type = k0) (e2 : f2.type = k0) (e3 : f3.type = k0) (e4 : f4.type = st)
    (h : DataW.trod enc P W base (fun _ => true) true fuel t [v] = some x) : ∃ l : List (List Deed), Rd (Old W) W (slD l) v ∧ l.length ≤ maxLen := by
  rcases open_slice ht h with ⟨hcs, _⟩ | ⟨a, len, cap, m, n, D, Pl, hcs, hb, hl, hm, hmm, _, hel⟩
  · have ez : v = .slice none 0 0 := by simpa using hcs
    exact ⟨[], ⟨none, 0, ez, Nat.le_refl _, Nat.zero_le _, fun h => absurd h (by simp)⟩, Nat.zero_le _⟩
  · have ev : v = .slice (some a) len cap := by simpa using hcs
    have hmc : m = cap := by simpa using hmm
    have each : ∀ k, ∃ c : List Deed, k < m → ∃ w, W.cell? (a.add (k * 1)) = some w ∧ w.oneCell' = true ∧ Rd (Old W) W (slD c) w := fun k => by
      by_cases hk : k < m
      · obtain ⟨cs', hc, hd⟩ := hel k hk
        rw [hC] at hc
        obtain ⟨_, hcl, hat⟩ := World.cells?_some hc
        match cs', hcl with
        | [c0], _ =>
          obtain ⟨l, hr, _, _⟩ := rd_deedL he hi hone hic hk0 hst e0 e1 e2 e3 e4 hd
          have h0 := hat 0 (by decide)
          have h0' : W.cell? (a.add (k * 1)) = some c0 := by
            have ey : (a.add (k * 1)).add 0 = a.add (k * 1) := by
              unfold Addr.add; split <;> simp_all
            rw [ey] at h0
            simpa using h0
          refine ⟨l, fun _ => ⟨c0, h0', ?_, hr⟩⟩
          obtain ⟨a', cap', e', _⟩ := hr
          rw [e']; rfl
      · exact ⟨[], fun h => absurd h hk⟩
    obtain ⟨F, hF⟩ := Classical.axiomOfChoice each
    have hlen : ((List.range len).map F).length = len := by simp
    refine ⟨(List.range len).map F, ?_, by omega⟩
    show Rd _ _ (.sl 1 ((List.range len).map F).length (row ((List.range len).map F)).get) _
    rw [hlen]
    refine ⟨some a, cap, ev, hl, hm, fun h0 => ?_⟩
    obtain ⟨z, hz, _⟩ := hF 0 (by omega)
    have hs := cell_spot hz
    have ea : a = ⟨a.block, a.off, none⟩ := by
      have := hs.1
      simp only [Addr.add, Nat.zero_mul, if_pos] at this
      cases a; simp_all
    refine ⟨a.block, a.off, by rw [← ea], (by have := hs.2; simpa [Addr.add, Old] using this), fun k hk f hf => ?_⟩
    obtain ⟨z, hz, ho, hd⟩ := hF k (by omega)
    rw [ea, add_flat] at hz
    have f0 : f = 0 := by omega
    subst f0
    refine ⟨z, hz, ho, ?_⟩
    have : ((List.range len).map F).getD k El.d = F k := by simp [hk]
    show Rd _ _ (El.enc (((List.range len).map F).getD k El.d) 0) _
    rw [this]
    exact hd
theorem sl_bulk {s e : TypeId} {v : Value} {d : DataW H} {p : List MemPlace} (hs : P.underlying s = some (.slice e)) {n : Nat} (h : DataW.trod enc P W base (fun _ => true) true n s [v] = some (d, p)) {size len : Nat} {get : Nat → Nat → D} (hr : Rd (Old W) W (.sl size len get) v) : len ≤ Rows.uptoBulk d := by
  obtain ⟨a, cap, ev, _⟩ := hr
  rcases open_slice hs h with ⟨hcs, _⟩ | ⟨a', len', cap', m, k, D, Pl, hcs, _, hl, _, hm, hx, _⟩
  · have h2 : v = .slice none 0 0 := by simpa using hcs
    rw [ev] at h2
    injection h2 with _ h3 _
    omega
  · have h2 : v = .slice (some a') len' cap' := by simpa using hcs
    rw [ev] at h2
    injection h2 with _ h3 _
    have hx' : d = _ := congrArg Prod.fst hx
    rw [hx', h3]
    unfold Rows.uptoBulk
    have := bulk_len ((List.range len').map D)
    rw [List.length_map, List.length_range] at this
    omega
theorem deedLL_bulk {s e i : TypeId} {v : Value} {d : DataW H} {p : List MemPlace} (hs : P.underlying s = some (.slice e)) (he : P.underlying e = some (.slice i)) (hC : P.cellsOf e = 1) {n : Nat} (h : DataW.trod enc P W base (fun _ => true) true n s [v] = some (d, p))
    {l : List (List Deed)} (hr : Rd (Old W) W (slD l) v) : l.length ≤ Rows.uptoBulk d ∧ ∀ k, k < l.length → (l.getD k []).length ≤ Rows.uptoBulk d := by
  obtain ⟨a, cap, ev, _, _, h3⟩ := hr
  rcases open_slice hs h with ⟨hcs, _⟩ | ⟨a', len, cap', m, k, D, Pl, hcs, _, hl, _, hm, hx, hel⟩
  · have h2 : v = .slice none 0 0 := by simpa using hcs
    rw [ev] at h2
    injection h2 with _ h3 _
    exact ⟨by omega, fun k hk => by omega⟩
  · have h2 : v = .slice (some a') len cap' := by simpa using hcs
    rw [ev] at h2
    injection h2 with h4 h5 _
    have hx' : d = _ := congrArg Prod.fst hx
    have hm' : m = cap' := by simpa using hm
    have hb : len ≤ Rows.uptoBulk d ∧ ∀ j, j < len → Rows.uptoBulk (D j) ≤ Rows.uptoBulk d := by
      rw [hx']
      unfold Rows.uptoBulk
      have h6 := bulk_len ((List.range len).map D)
      rw [List.length_map, List.length_range] at h6
      refine ⟨by omega, fun j hj => ?_⟩
      have h7 := bulk_mem (l := (List.range len).map D) (d := D j) (List.mem_map.2 ⟨j, List.mem_range.2 hj, rfl⟩)
      have h8 : Rows.uptoBulk (D j) ≤ Rows.uptoBulkAll ((List.range len).map D) := h7
      unfold Rows.uptoBulk at h8
      omega
    refine ⟨by omega, fun j hj => ?_⟩
    obtain ⟨g, q, e1, hg, hc⟩ := h3 (by omega)
    obtain ⟨u, hu, _, hru⟩ := hc j hj 0 (Nat.zero_lt_one)
    obtain ⟨cs', hcs', hd⟩ := hel j (by omega)
    rw [hC] at hcs'
    obtain ⟨_, hcl, hat⟩ := World.cells?_some hcs'
    match cs', hcl with
    | [c0], _ =>
      have h0 := hat 0 (by decide)
      have ea : a' = ⟨g, q, none⟩ := by
        rw [h4] at e1
        exact Option.some.inj e1
      rw [ea, add_flat, add_flat] at h0
      have e3 : (⟨g, q + (j * El.size (List Deed) + 0), none⟩ : Addr) = ⟨g, q + j * 1 + 0, none⟩ := by
        rw [show El.size (List Deed) = 1 from rfl, Nat.add_assoc]
      rw [e3] at hu
      have e4 : u = c0 := by
        rw [hu] at h0
        simpa using h0
      subst e4
      exact Nat.le_trans (sl_bulk he hd hru) (hb.2 j (by omega))
end
end Go.Proofs.Ytkfmphlnpmemdaa.Sx
