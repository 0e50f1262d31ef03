/- From a row's reading of its arguments to what the walks say of them. -/
import Derived.Test.YtgkcmjmofcekmaaDat
import Derived.ProofKit
import Derived.Lib.SmallJoins
import Derived.Deep.Slices
import Derived.Deep.Fields
import Derived.Deep.Strs
import Derived.Carry
namespace Go.Proofs.Ytgkcmjmofcekmaa.Sx
open Go Go.ChangeShapes Go.WideShapes Go.RowKit Go.Deep
set_option linter.unusedVariables false
set_option linter.unusedSimpArgs false

def Old (W : World) (b : Nat) : Prop := b < W.heap.size
theorem inI_of {n : Int} (h : (Lit.int .i64 n).wf = true) : InI n := by
  simp only [Lit.wf, Bool.and_eq_true, decide_eq_true_eq] at h
  exact h
theorem cell_spot {W : World} {a : Addr} {v : Value} (h : W.cell? a = some v) : a.spot = none ∧ a.block < W.heap.size := by
  unfold World.cell? at h
  split at h
  · rename_i c _ _ hc
    split at h
    · cases h
    · rename_i hs
      exact ⟨by simpa using hs, (Array.getElem?_eq_some_iff.1 hc).1⟩
  · cases h
theorem add_flat (b q n : Nat) : (⟨b, q, none⟩ : Addr).add n = ⟨b, q + n, none⟩ := by
  unfold Addr.add
  split
  · rename_i h; simp [h]
  · rfl

section
variable {H : Type} {enc : TypeId × Value → H} {P : Program} {W : World} {base : Nat}

theorem rd_intL {t e : TypeId} {fuel : Nat} {v : Value} {x : DataW H × List MemPlace} (ht : P.underlying t = some (.slice e)) (he : P.underlying e = some (.int .i64)) (hc : P.cellsOf e = 1)
    (h : DataW.trod enc P W base (fun _ => true) true fuel t [v] = some x) : ∃ l : List Int, Rd (Old W) W (intsD l) v ∧ (∀ n, n ∈ l → InI n) ∧ l.length ≤ maxLen := by
  rcases open_ints ht he hc h with ⟨hcs, _⟩ | ⟨a, len, cap, zs, hcs, _, hl, hm, hz, _, hcell, hwz⟩
  · have e1 : v = .slice none 0 0 := by simpa using hcs
    exact ⟨[], ⟨none, 0, e1, Nat.le_refl _, Nat.zero_le _, fun h => absurd h (by simp)⟩, (by intro n hn; cases hn), Nat.zero_le _⟩
  · have e1 : v = .slice (some a) len cap := by simpa using hcs
    have hz' : zs.length = cap := by simpa using hz
    have hlen : (zs.take len).length = len := by rw [List.length_take]; omega
    refine ⟨zs.take len, ?_, fun n hn => inI_of (hwz n (List.mem_of_mem_take hn)), by omega⟩
    show Rd _ _ (.sl 1 (zs.take len).length (row (zs.take len)).get) _
    rw [hlen]
    refine ⟨some a, cap, e1, hl, hm, fun h0 => ?_⟩
    have h00 := hcell 0 (by omega)
    have hs := cell_spot h00
    have ea : a = ⟨a.block, a.off, none⟩ := by
      have := hs.1
      simp only [Addr.add, if_pos] at this
      cases a; simp_all
    refine ⟨a.block, a.off, by rw [← ea], (by have := hs.2; simpa [Addr.add, Old] using this), fun i hi f hf => ?_⟩
    have hi' := hcell i (by omega)
    rw [ea, add_flat] at hi'
    have : f = 0 := by omega
    subst this
    refine ⟨_, by simpa using hi', rfl, ?_⟩
    show _ = _
    simp only [List.getD_eq_getElem?_getD, List.getElem?_take, hi, if_true]
    rfl

theorem rd_arcL {t e i : TypeId} {f0 f1 f2 : Field} {fuel : Nat} {v : Value} {x : DataW H × List MemPlace} (ht : P.underlying t = some (.slice e)) (he : P.underlying e = some (.struct #[f0, f1, f2])) (hone : oneCellFields P #[f0, f1, f2] = true) (hC : P.cellsOf e = 3)
    (hi : P.underlying i = some (.int .i64)) (e0 : f0.type = i) (e1 : f1.type = i) (e2 : f2.type = i)
    (h : DataW.trod enc P W base (fun _ => true) true fuel t [v] = some x) : ∃ l : List Arc, Rd (Old W) W (arcsD l) v ∧ (∀ a, a ∈ l → InI a.f ∧ InI a.t ∧ InI a.c) ∧ l.length ≤ maxLen := by
  rcases open_slice ht h with ⟨hcs, _⟩ | ⟨a, len, cap, m, n, D, Pl, hcs, hb, hl, hm, hmm, _, hel⟩
  · have e1 : v = .slice none 0 0 := by simpa using hcs
    exact ⟨[], ⟨none, 0, e1, Nat.le_refl _, Nat.zero_le _, fun h => absurd h (by simp)⟩, (by intro n hn; cases hn), Nat.zero_le _⟩
  · have ev : v = .slice (some a) len cap := by simpa using hcs
    have hmc : m = cap := by simpa using hmm
    have each : ∀ k, ∃ c : Arc, k < m → (∀ j, j < 3 → ∃ z, W.cell? ((a.add (k * 3)).add j) = some (.int .i64 z) ∧ arcD c j = .v (.int .i64 z)) ∧ (InI c.f ∧ InI c.t ∧ InI c.c) := fun k => by
      by_cases hk : k < m
      · obtain ⟨cs', hc, hd⟩ := hel k hk
        rw [hC] at hc
        obtain ⟨_, hcl, hat⟩ := World.cells?_some hc
        obtain ⟨y0, y1, y2, n', _, _, g0, g1, g2⟩ := trod_struct3 he hd
        obtain ⟨o0, k0⟩ := hone_of hone 0 f0 rfl
        obtain ⟨o1, k1⟩ := hone_of hone 1 f1 rfl
        obtain ⟨o2, k2⟩ := hone_of hone 2 f2 rfl
        match cs', hcl with
        | [c0, c1, c2], _ =>
          rw [o0, k0, e0] at g0
          rw [o1, k1, e1] at g1
          rw [o2, k2, e2] at g2
          obtain ⟨z0, q0, _, w0⟩ := DataW.trod_int hi g0
          obtain ⟨z1, q1, _, w1⟩ := DataW.trod_int hi g1
          obtain ⟨z2, q2, _, w2⟩ := DataW.trod_int hi g2
          have r0 : c0 = .int .i64 z0 := by simpa using q0
          have r1 : c1 = .int .i64 z1 := by simpa using q1
          have r2 : c2 = .int .i64 z2 := by simpa using q2
          subst r0 r1 r2
          refine ⟨⟨z0, z1, z2⟩, fun _ => ⟨fun j hj => ?_, inI_of w0, inI_of w1, inI_of w2⟩⟩
          have := hat j hj
          match j, hj with
          | 0, _ => exact ⟨z0, by simpa using this, rfl⟩
          | 1, _ => exact ⟨z1, by simpa using this, rfl⟩
          | 2, _ => exact ⟨z2, by simpa using this, rfl⟩
      · exact ⟨⟨0, 0, 0⟩, fun h => absurd h hk⟩
    obtain ⟨F, hF⟩ := Classical.axiomOfChoice each
    have hlen : ((List.range len).map F).length = len := by simp
    refine ⟨(List.range len).map F, ?_, fun c hc => ?_, by omega⟩
    · show Rd _ _ (.sl 3 ((List.range len).map F).length (row ((List.range len).map F)).get) _
      rw [hlen]
      refine ⟨some a, cap, ev, hl, hm, fun h0 => ?_⟩
      obtain ⟨z, hz, _⟩ := (hF 0 (by omega)).1 0 (by omega)
      have hs := cell_spot hz
      have ea : a = ⟨a.block, a.off, none⟩ := by
        have := hs.1
        simp only [Addr.add, Nat.zero_mul, if_pos] at this
        cases a; simp_all
      refine ⟨a.block, a.off, by rw [← ea], (by have := hs.2; simpa [Addr.add, Old] using this), fun k hk f hf => ?_⟩
      obtain ⟨z, hz, hd⟩ := (hF k (by omega)).1 f hf
      rw [ea, add_flat, add_flat] at hz
      refine ⟨_, by rw [← hz, Nat.add_assoc], rfl, ?_⟩
      have : ((List.range len).map F).getD k El.d = F k := by simp [hk]
      show Rd _ _ (arcD _ f) _
      rw [this, hd]
      rfl
    · obtain ⟨k, hk, rfl⟩ := List.mem_map.1 hc
      exact (hF k (by have := List.mem_range.1 hk; omega)).2

theorem rd_graph {t s e i : TypeId} {h0 h1 f0 f1 f2 : Field} {r : Reach} {b0 : Nat} {v : Value} {d : DataW H} {p : List MemPlace} (hg : P.underlying t = some (.struct #[h0, h1])) (hgo : oneCellFields P #[h0, h1] = true) (hgC : P.cellsOf t = 2)
    (t0 : h0.type = i) (t1 : h1.type = s)
    (hs : P.underlying s = some (.slice e)) (he : P.underlying e = some (.struct #[f0, f1, f2])) (hone : oneCellFields P #[f0, f1, f2] = true) (hC : P.cellsOf e = 3)
    (hi : P.underlying i = some (.int .i64)) (e0 : f0.type = i) (e1 : f1.type = i) (e2 : f2.type = i)
    (hv : Value.okWide P W r b0 t v) (h : DataW.Trod enc P W base (fun _ => true) true t v d p) : ∃ g : Graph, Rd (Old W) W (graphD g) v ∧ GIn g := by
  obtain ⟨v0, v1, y0, y1, n, rfl, _, _, q0, q1⟩ := Joins.open_agg2 hg hgo hgC hv h
  rw [t0] at q0
  rw [t1] at q1
  obtain ⟨z, hz, _, hw⟩ := DataW.trod_int hi q0
  have hz' : v0 = .int .i64 z := by simpa using hz
  subst hz'
  obtain ⟨l, hl, hin, hlen⟩ := rd_arcL hs he hone hC hi e0 e1 e2 q1
  refine ⟨⟨z, l⟩, ⟨_, rfl, rfl, fun j hj => ?_⟩, inI_of hw, hin, hlen⟩
  match j, hj with
  | 0, _ => exact ⟨_, rfl, rfl, rfl⟩
  | 1, _ =>
    have hl' := hl
    obtain ⟨a, cap, e, _⟩ := hl'
    exact ⟨v1, rfl, by rw [e]; rfl, hl⟩
end

theorem hok_nil {I : Nat → Prop} {w : World} : HOk I w [] := ⟨fun _ h => (by cases h), List.Pairwise.nil, fun b ⟨z, hz, _⟩ => (by cases hz)⟩
/-! ### the row's frame: a law that answers true and turns no block -/
theorem Same.below {W W' : World} (h : Same W W' (fps [])) : Below W.heap.size W W' :=
  ⟨h.os, h.tape, h.output, h.size, fun k hk => h.block k hk fun ⟨z, hz, _⟩ => by cases hz⟩
section
variable {H : Type} {enc : TypeId × Value → H} {P : Program} {W W' : World}
theorem trodAll_stays (hl : laidOutB P = true) (hb : Below W.heap.size W W') : ∀ {ts : List TypeId} {vs : List Value} {ds : List (DataW H)} {ps : List MemPlace}, DataW.TrodAll enc P W 0 (fun _ => true) true ts vs ds ps →
    ts.all (fun t => P.readableRec t && decide (t < P.types.size)) = true → (∀ x ∈ ps, x.block < W.heap.size) → DataW.TrodAll enc P W' 0 (fun b => decide (b < W.heap.size)) true ts vs ds ps
  | [], _, _, _, h, _, _ => by
    obtain ⟨rfl, rfl, rfl⟩ := trodAll_nil h
    exact trodAll_mk0
  | t :: ts, vs, ds, ps, h, ht, hp => by
    obtain ⟨v, vs', d, ds', a, b, rfl, rfl, rfl, h1, h2⟩ := trodAll_cons h
    simp only [List.all_cons, Bool.and_eq_true, decide_eq_true_eq] at ht
    exact ⟨a, b, Below.trod hl ht.1.1 ht.1.2 h1 hb (fun x hx => hp x (List.mem_append_left _ hx)), trodAll_stays hl hb h2 ht.2 (fun x hx => hp x (List.mem_append_right _ hx)), rfl⟩
theorem law_post {f : Func} {s : ChangeSpec} {args : Array Value} {ds gs : List (DataW H)} {p before : List MemPlace} {bt : TypeId} {b : Bool} (hl : laidOutB P = true) (hW : DataW.Whole enc P f.params.toList s.vars false W args.toList ds gs before)
    (hA : DataW.TrodAll enc P W 0 (fun _ => true) true f.params.toList args.toList ds p) (hpb : ∀ x ∈ p, x ∈ before)
    (hb : Below W.heap.size W W') (ht : f.params.toList.all (fun t => P.readableRec t && decide (t < P.types.size)) = true) (hr : f.resultTypes = #[bt]) (hbt : P.underlying bt = some .bool)
    (hs : s.vars = []) (hfn : s.fn H (ds ++ gs) = { results := [.lit (.bool b)], args := ds }) : s.post enc P f false true false false W args (.bool b) W' := by
  refine ⟨ds, gs, before, [], p, [], hW, ?_, ?_, ?_, ?_, fun h => by cases h⟩
  · rw [hfn, hr]
    exact trodAll_mk1 (shut_bool hbt b)
  · rw [hfn]
    exact trodAll_stays hl hb hA ht fun x hx => by simpa using hW.lt x (hpb x hx)
  · rw [hfn, hs]
    rfl
  · exact hb.frame _
end
end Go.Proofs.Ytgkcmjmofcekmaa.Sx
