/- Readings that a row's frame may ask for beyond Frame: an arc by value, a graph's arcs within reach. -/
import Derived.Test.YtgkcmjmofcekmaaFrame
import Derived.SizedLaws
import Derived.Lib.SmallJoins
namespace Go.Proofs.Ytgkcmjmofcekmaa.Sx
open Go Go.ChangeShapes Go.WideShapes Go.RowKit Go.Deep
set_option linter.unusedVariables false
set_option linter.unusedSimpArgs false
section
variable {H : Type} {enc : TypeId × Value → H} {P : Program} {W : World} {base : Nat}
theorem rd_arc {t i : TypeId} {f0 f1 f2 : Field} {r : Reach} {b0 : Nat} {v : Value} {d : DataW H} {p : List MemPlace} (he : P.underlying t = some (.struct #[f0, f1, f2])) (hone : oneCellFields P #[f0, f1, f2] = true) (hC : P.cellsOf t = 3)
    (hi : P.underlying i = some (.int .i64)) (e0 : f0.type = i) (e1 : f1.type = i) (e2 : f2.type = i)
    (hv : Value.okWide P W r b0 t v) (h : DataW.Trod enc P W base (fun _ => true) true t v d p) : ∃ c : Arc, Rd (Old W) W (.ag 3 (arcD c)) v ∧ (InI c.f ∧ InI c.t ∧ InI c.c) := by
  obtain ⟨v0, v1, v2, y0, y1, y2, n, rfl, _, _, q0, q1, q2⟩ := Joins.open_agg3 he hone hC hv h
  rw [e0] at q0
  rw [e1] at q1
  rw [e2] at q2
  obtain ⟨z0, k0, _, w0⟩ := DataW.trod_int hi q0
  obtain ⟨z1, k1, _, w1⟩ := DataW.trod_int hi q1
  obtain ⟨z2, k2, _, w2⟩ := DataW.trod_int hi q2
  have r0 : v0 = .int .i64 z0 := by simpa using k0
  have r1 : v1 = .int .i64 z1 := by simpa using k1
  have r2 : v2 = .int .i64 z2 := by simpa using k2
  subst r0 r1 r2
  refine ⟨⟨z0, z1, z2⟩, ⟨_, rfl, rfl, fun j hj => ?_⟩, inI_of w0, inI_of w1, inI_of w2⟩
  match j, hj with
  | 0, _ => exact ⟨_, rfl, rfl, rfl⟩
  | 1, _ => exact ⟨_, rfl, rfl, rfl⟩
  | 2, _ => exact ⟨_, rfl, rfl, rfl⟩
theorem rd_net {t s e i : TypeId} {h0 h1 h2 h3 f0 f1 f2 : Field} {r : Reach} {b0 : Nat} {v : Value} {d : DataW H} {p : List MemPlace} (hg : P.underlying t = some (.struct #[h0, h1, h2, h3])) (hgo : oneCellFields P #[h0, h1, h2, h3] = true) (hgC : P.cellsOf t = 4)
    (t0 : h0.type = i) (t1 : h1.type = i) (t2 : h2.type = i) (t3 : h3.type = s)
    (hs : P.underlying s = some (.slice e)) (he : P.underlying e = some (.struct #[f0, f1, f2])) (hone : oneCellFields P #[f0, f1, f2] = true) (hC : P.cellsOf e = 3)
    (hi : P.underlying i = some (.int .i64)) (e0 : f0.type = i) (e1 : f1.type = i) (e2 : f2.type = i)
    (hv : Value.okWide P W r b0 t v) (h : DataW.Trod enc P W base (fun _ => true) true t v d p) : ∃ g : Net, Rd (Old W) W (netD g) v ∧ GIn ⟨g.n, g.as⟩ ∧ InI g.s ∧ InI g.t := by
  obtain ⟨v0, v1, v2, v3, y0, y1, y2, y3, n, rfl, _, _, q0, q1, q2, q3⟩ := Joins.open_agg4 hg hgo hgC hv h
  rw [t0] at q0
  rw [t1] at q1
  rw [t2] at q2
  rw [t3] at q3
  obtain ⟨z0, k0, _, w0⟩ := DataW.trod_int hi q0
  obtain ⟨z1, k1, _, w1⟩ := DataW.trod_int hi q1
  obtain ⟨z2, k2, _, w2⟩ := DataW.trod_int hi q2
  have r0 : v0 = .int .i64 z0 := by simpa using k0
  have r1 : v1 = .int .i64 z1 := by simpa using k1
  have r2 : v2 = .int .i64 z2 := by simpa using k2
  subst r0 r1 r2
  obtain ⟨l, hl, hin, hlen⟩ := rd_arcL hs he hone hC hi e0 e1 e2 q3
  refine ⟨⟨z0, z1, z2, l⟩, ⟨_, rfl, rfl, fun j hj => ?_⟩, ⟨inI_of w0, hin, hlen⟩, inI_of w1, inI_of w2⟩
  match j, hj with
  | 0, _ => exact ⟨_, rfl, rfl, rfl⟩
  | 1, _ => exact ⟨_, rfl, rfl, rfl⟩
  | 2, _ => exact ⟨_, rfl, rfl, rfl⟩
  | 3, _ =>
    have hl' := hl
    obtain ⟨a, cap, e, _⟩ := hl'
    exact ⟨v3, rfl, by rw [e]; rfl, hl⟩
theorem rd_proof {t s i u : TypeId} {h0 h1 h2 : Field} {r : Reach} {b0 : Nat} {v : Value} {d : DataW H} {p : List MemPlace} (hg : P.underlying t = some (.struct #[h0, h1, h2])) (hgo : oneCellFields P #[h0, h1, h2] = true) (hgC : P.cellsOf t = 3)
    (t0 : h0.type = i) (t1 : h1.type = s) (t2 : h2.type = u)
    (hs : P.underlying s = some (.slice i)) (hi : P.underlying i = some (.int .i64)) (hic : P.cellsOf i = 1) (hu : P.underlying u = some (.int .u16))
    (hv : Value.okWide P W r b0 t v) (h : DataW.Trod enc P W base (fun _ => true) true t v d p) : ∃ g : Proof, Rd (Old W) W (proofD g) v ∧ InI g.value ∧ ((∀ n, n ∈ g.flow → InI n) ∧ g.flow.length ≤ maxLen) := by
  obtain ⟨v0, v1, v2, y0, y1, y2, n, rfl, _, hone, q0, q1, q2⟩ := Joins.open_agg3 hg hgo hgC hv h
  rw [t0] at q0
  rw [t1] at q1
  rw [t2] at q2
  obtain ⟨z0, k0, _, w0⟩ := DataW.trod_int hi q0
  obtain ⟨z2, k2, _, w2⟩ := DataW.trod_int hu q2
  have r0 : v0 = .int .i64 z0 := by simpa using k0
  have r2 : v2 = .int .u16 z2 := by simpa using k2
  subst r0 r2
  obtain ⟨l, hl, hin⟩ := rd_intL hs hi hic q1
  refine ⟨⟨z0, l, z2⟩, ⟨_, rfl, rfl, fun j hj => ?_⟩, inI_of w0, hin⟩
  match j, hj with
  | 0, _ => exact ⟨_, rfl, rfl, rfl⟩
  | 1, _ =>
    have hl' := hl
    obtain ⟨a, cap, e, _⟩ := hl'
    exact ⟨v1, rfl, by rw [e]; rfl, hl⟩
  | 2, _ => exact ⟨_, rfl, rfl, rfl⟩
theorem rd_needL {t e i : TypeId} {f0 f1 f2 f3 : Field} {fuel : Nat} {v : Value} {x : DataW H × List MemPlace} (ht : P.underlying t = some (.slice e)) (he : P.underlying e = some (.struct #[f0, f1, f2, f3])) (hone : oneCellFields P #[f0, f1, f2, f3] = true) (hC : P.cellsOf e = 4)
    (hi : P.underlying i = some (.int .i64)) (e0 : f0.type = i) (e1 : f1.type = i) (e2 : f2.type = i) (e3 : f3.type = i)
    (h : DataW.trod enc P W base (fun _ => true) true fuel t [v] = some x) : ∃ l : List Need, Rd (Old W) W (slD l) v ∧ (∀ a, a ∈ l → InI a.f ∧ InI a.t ∧ InI a.low ∧ InI a.cap) ∧ l.length ≤ maxLen := by
  rcases open_slice ht h with ⟨hcs, _⟩ | ⟨a, len, cap, m, n, D, Pl, hcs, hb, hl, hm, hmm, _, hel⟩
  · have e1 : v = .slice none 0 0 := by simpa using hcs
    exact ⟨[], ⟨none, 0, e1, Nat.le_refl _, Nat.zero_le _, fun h => absurd h (by simp)⟩, (by intro n hn; cases hn), Nat.zero_le _⟩
  · have ev : v = .slice (some a) len cap := by simpa using hcs
    have hmc : m = cap := by simpa using hmm
    have each : ∀ k, ∃ c : Need, k < m → (∀ j, j < 4 → ∃ z, W.cell? ((a.add (k * 4)).add j) = some (.int .i64 z) ∧ El.enc c j = .v (.int .i64 z)) ∧ (InI c.f ∧ InI c.t ∧ InI c.low ∧ InI c.cap) := fun k => by
      by_cases hk : k < m
      · obtain ⟨cs', hc, hd⟩ := hel k hk
        rw [hC] at hc
        obtain ⟨_, hcl, hat⟩ := World.cells?_some hc
        obtain ⟨y0, y1, y2, y3, n', _, _, g0, g1, g2, g3⟩ := Joins.trod_struct4 he hd
        obtain ⟨o0, k0⟩ := hone_of hone 0 f0 rfl
        obtain ⟨o1, k1⟩ := hone_of hone 1 f1 rfl
        obtain ⟨o2, k2⟩ := hone_of hone 2 f2 rfl
        obtain ⟨o3, k3⟩ := hone_of hone 3 f3 rfl
        match cs', hcl with
        | [c0, c1, c2, c3], _ =>
          rw [o0, k0, e0] at g0
          rw [o1, k1, e1] at g1
          rw [o2, k2, e2] at g2
          rw [o3, k3, e3] at g3
          obtain ⟨z0, q0, _, w0⟩ := DataW.trod_int hi g0
          obtain ⟨z1, q1, _, w1⟩ := DataW.trod_int hi g1
          obtain ⟨z2, q2, _, w2⟩ := DataW.trod_int hi g2
          obtain ⟨z3, q3, _, w3⟩ := DataW.trod_int hi g3
          have r0 : c0 = .int .i64 z0 := by simpa using q0
          have r1 : c1 = .int .i64 z1 := by simpa using q1
          have r2 : c2 = .int .i64 z2 := by simpa using q2
          have r3 : c3 = .int .i64 z3 := by simpa using q3
          subst r0 r1 r2 r3
          refine ⟨⟨z0, z1, z2, z3⟩, fun _ => ⟨fun j hj => ?_, inI_of w0, inI_of w1, inI_of w2, inI_of w3⟩⟩
          have := hat j hj
          match j, hj with
          | 0, _ => exact ⟨z0, by simpa using this, rfl⟩
          | 1, _ => exact ⟨z1, by simpa using this, rfl⟩
          | 2, _ => exact ⟨z2, by simpa using this, rfl⟩
          | 3, _ => exact ⟨z3, by simpa using this, rfl⟩
      · exact ⟨⟨0, 0, 0, 0⟩, fun h => absurd h hk⟩
    obtain ⟨F, hF⟩ := Classical.axiomOfChoice each
    have hlen : ((List.range len).map F).length = len := by simp
    refine ⟨(List.range len).map F, ?_, fun c hc => ?_, by omega⟩
    · show Rd _ _ (.sl 4 ((List.range len).map F).length (row ((List.range len).map F)).get) _
      rw [hlen]
      refine ⟨some a, cap, ev, hl, hm, fun h0 => ?_⟩
      obtain ⟨z, hz, _⟩ := (hF 0 (by omega)).1 0 (by omega)
      have hs := cell_spot hz
      have ea : a = ⟨a.block, a.off, none⟩ := by
        have := hs.1
        simp only [Addr.add, Nat.zero_mul, if_pos] at this
        cases a; simp_all
      refine ⟨a.block, a.off, by rw [← ea], (by have := hs.2; simpa [Addr.add, Old] using this), fun k hk f hf => ?_⟩
      obtain ⟨z, hz, hd⟩ := (hF k (by omega)).1 f hf
      rw [ea, add_flat, add_flat] at hz
      refine ⟨_, by rw [← hz, Nat.add_assoc], rfl, ?_⟩
      have : ((List.range len).map F).getD k El.d = F k := by simp [hk]
      show Rd _ _ (El.enc (_ : Need) f) _
      rw [this, hd]
      rfl
    · obtain ⟨k, hk, rfl⟩ := List.mem_map.1 hc
      exact (hF k (by have := List.mem_range.1 hk; omega)).2
theorem graph_len {t s e : TypeId} {h0 h1 : Field} {r : Reach} {b0 : Nat} {v : Value} {d : DataW H} {p : List MemPlace} (hg : P.underlying t = some (.struct #[h0, h1])) (hgo : oneCellFields P #[h0, h1] = true) (hgC : P.cellsOf t = 2)
    (t1 : h1.type = s) (hs : P.underlying s = some (.slice e)) (hv : Value.okWide P W r b0 t v) (h : DataW.Trod enc P W base (fun _ => true) true t v d p)
    (hz : ∀ n ∈ d.weights P t, n ≤ reachBytes) {g : Graph} (hr : Rd (Old W) W (graphD g) v) : g.as.length * P.bytesOf e ≤ reachBytes := by
  obtain ⟨v0, v1, y0, y1, n, rfl, rfl, _, q0, q1⟩ := Joins.open_agg2 hg hgo hgC hv h
  rw [t1] at q1
  obtain ⟨vs, hvs, _, hat⟩ := hr
  obtain ⟨u, hu, _, hru⟩ := hat 1 (by decide)
  have e0 : vs = #[v0, v1] := by injection hvs with hvs; exact hvs.symm
  subst e0
  have e1 : v1 = u := by simpa using hu
  subst e1
  obtain ⟨a, cap, ev, _⟩ := hru
  have hw : ∀ m ∈ y1.1.weights P s, m ≤ reachBytes := fun m hm => hz m (by
    simp only [DataW.weights, hg, DataW.weightsEach, List.map_cons, List.map_nil, t1, List.mem_append]
    exact .inr (.inl hm))
  rcases open_slice hs q1 with ⟨hcs, _⟩ | ⟨a', len, cap', m, k, D, Pl, hcs, _, hl, _, hm, hx, _⟩
  · have h2 : v1 = .slice none 0 0 := by simpa using hcs
    rw [ev] at h2
    injection h2 with _ h3 _
    rw [h3]; simp
  · have h2 : v1 = .slice (some a') len cap' := by simpa using hcs
    rw [ev] at h2
    injection h2 with _ h3 _
    rw [hx] at hw
    have h4 := hw ((len + (m - len)) * P.bytesOf e) (by simp [DataW.weights, hs])
    rw [h3]
    exact Nat.le_trans (Nat.mul_le_mul_right _ (Nat.le_add_right _ _)) h4
theorem net_len {t s e : TypeId} {h0 h1 h2 h3 : Field} {r : Reach} {b0 : Nat} {v : Value} {d : DataW H} {p : List MemPlace} (hg : P.underlying t = some (.struct #[h0, h1, h2, h3])) (hgo : oneCellFields P #[h0, h1, h2, h3] = true) (hgC : P.cellsOf t = 4)
    (t3 : h3.type = s) (hs : P.underlying s = some (.slice e)) (hv : Value.okWide P W r b0 t v) (h : DataW.Trod enc P W base (fun _ => true) true t v d p)
    (hz : ∀ n ∈ d.weights P t, n ≤ reachBytes) {g : Net} (hr : Rd (Old W) W (netD g) v) : g.as.length * P.bytesOf e ≤ reachBytes := by
  obtain ⟨v0, v1, v2, v3, y0, y1, y2, y3, n, rfl, rfl, _, q0, q1, q2, q3⟩ := Joins.open_agg4 hg hgo hgC hv h
  rw [t3] at q3
  obtain ⟨vs, hvs, _, hat⟩ := hr
  obtain ⟨u, hu, _, hru⟩ := hat 3 (by decide)
  have e0 : vs = #[v0, v1, v2, v3] := by injection hvs with hvs; exact hvs.symm
  subst e0
  have e1 : v3 = u := by simpa using hu
  subst e1
  obtain ⟨a, cap, ev, _⟩ := hru
  have hw : ∀ m ∈ y3.1.weights P s, m ≤ reachBytes := fun m hm => hz m (by
    simp only [DataW.weights, hg, DataW.weightsEach, List.map_cons, List.map_nil, t3, List.mem_append]
    exact .inr (.inr (.inr (.inl hm))))
  rcases open_slice hs q3 with ⟨hcs, _⟩ | ⟨a', len, cap', m, k, D, Pl, hcs, _, hl, _, hm, hx, _⟩
  · have h2 : v3 = .slice none 0 0 := by simpa using hcs
    rw [ev] at h2
    injection h2 with _ h3 _
    rw [h3]; simp
  · have h2 : v3 = .slice (some a') len cap' := by simpa using hcs
    rw [ev] at h2
    injection h2 with _ h3 _
    rw [hx] at hw
    have h4 := hw ((len + (m - len)) * P.bytesOf e) (by simp [DataW.weights, hs])
    rw [h3]
    exact Nat.le_trans (Nat.mul_le_mul_right _ (Nat.le_add_right _ _)) h4
theorem ints_reach {s e : TypeId} {v : Value} {d : DataW H} {p : List MemPlace} (hs : P.underlying s = some (.slice e)) {n : Nat} (h : DataW.trod enc P W base (fun _ => true) true n s [v] = some (d, p))
    (hz : ∀ n ∈ d.weights P s, n ≤ reachBytes) {l : List Int} (hr : Rd (Old W) W (intsD l) v) : l.length * P.bytesOf e ≤ reachBytes := by
  obtain ⟨a, cap, ev, _⟩ := hr
  rcases open_slice hs h with ⟨hcs, _⟩ | ⟨a', len, cap', m, k, D, Pl, hcs, _, hl, _, hm, hx, _⟩
  · have h2 : v = .slice none 0 0 := by simpa using hcs
    rw [ev] at h2
    injection h2 with _ h3 _
    rw [h3]; simp
  · have h2 : v = .slice (some a') len cap' := by simpa using hcs
    rw [ev] at h2
    injection h2 with _ h3 _
    have hx' : d = _ := congrArg Prod.fst hx
    rw [hx'] at hz
    have h4 := hz ((len + (m - len)) * P.bytesOf e) (by simp [DataW.weights, hs])
    rw [h3]
    exact Nat.le_trans (Nat.mul_le_mul_right _ (Nat.le_add_right _ _)) h4
theorem arcs_reach {s e : TypeId} {v : Value} {d : DataW H} {p : List MemPlace} (hs : P.underlying s = some (.slice e)) {n : Nat} (h : DataW.trod enc P W base (fun _ => true) true n s [v] = some (d, p))
    (hz : ∀ n ∈ d.weights P s, n ≤ reachBytes) {l : List Arc} (hr : Rd (Old W) W (arcsD l) v) : l.length * P.bytesOf e ≤ reachBytes := by
  obtain ⟨a, cap, ev, _⟩ := hr
  rcases open_slice hs h with ⟨hcs, _⟩ | ⟨a', len, cap', m, k, D, Pl, hcs, _, hl, _, hm, hx, _⟩
  · have h2 : v = .slice none 0 0 := by simpa using hcs
    rw [ev] at h2
    injection h2 with _ h3 _
    rw [h3]; simp
  · have h2 : v = .slice (some a') len cap' := by simpa using hcs
    rw [ev] at h2
    injection h2 with _ h3 _
    have hx' : d = _ := congrArg Prod.fst hx
    rw [hx'] at hz
    have h4 := hz ((len + (m - len)) * P.bytesOf e) (by simp [DataW.weights, hs])
    rw [h3]
    exact Nat.le_trans (Nat.mul_le_mul_right _ (Nat.le_add_right _ _)) h4
theorem trodAll_five {spare : Nat → Bool} {held : Bool} {t0 t1 t2 t3 t4 : TypeId} {args : Array Value} {ds : List (DataW H)} {ps : List MemPlace} (h : DataW.TrodAll enc P W base spare held [t0, t1, t2, t3, t4] args.toList ds ps) :
    ∃ a0 a1 a2 a3 a4 b0 b1 b2 b3 b4 c0 c1 c2 c3 c4, args = #[a0, a1, a2, a3, a4] ∧ ds = [b0, b1, b2, b3, b4] ∧ ps = c0 ++ c1 ++ c2 ++ c3 ++ c4 ∧ DataW.Trod enc P W base spare held t0 a0 b0 c0 ∧ DataW.Trod enc P W base spare held t1 a1 b1 c1 ∧ DataW.Trod enc P W base spare held t2 a2 b2 c2 ∧ DataW.Trod enc P W base spare held t3 a3 b3 c3 ∧ DataW.Trod enc P W base spare held t4 a4 b4 c4 := by
  obtain ⟨a0, r0, b0, e0, c0, f0, hargs, rfl, rfl, g0, k0⟩ := trodAll_cons h
  obtain ⟨a1, r1, b1, e1, c1, f1, rfl, rfl, rfl, g1, k1⟩ := trodAll_cons k0
  obtain ⟨a2, r2, b2, e2, c2, f2, rfl, rfl, rfl, g2, k2⟩ := trodAll_cons k1
  obtain ⟨a3, r3, b3, e3, c3, f3, rfl, rfl, rfl, g3, k3⟩ := trodAll_cons k2
  obtain ⟨a4, r4, b4, e4, c4, f4, rfl, rfl, rfl, g4, k4⟩ := trodAll_cons k3
  obtain ⟨rfl, rfl, rfl⟩ := trodAll_nil k4
  exact ⟨a0, a1, a2, a3, a4, b0, b1, b2, b3, b4, c0, c1, c2, c3, c4, by cases args; simp_all, rfl, by simp, g0, g1, g2, g3, g4⟩
theorem trodAll_six {spare : Nat → Bool} {held : Bool} {t0 t1 t2 t3 t4 t5 : TypeId} {args : Array Value} {ds : List (DataW H)} {ps : List MemPlace} (h : DataW.TrodAll enc P W base spare held [t0, t1, t2, t3, t4, t5] args.toList ds ps) :
    ∃ a0 a1 a2 a3 a4 a5 b0 b1 b2 b3 b4 b5 c0 c1 c2 c3 c4 c5, args = #[a0, a1, a2, a3, a4, a5] ∧ ds = [b0, b1, b2, b3, b4, b5] ∧ ps = c0 ++ c1 ++ c2 ++ c3 ++ c4 ++ c5 ∧ DataW.Trod enc P W base spare held t0 a0 b0 c0 ∧ DataW.Trod enc P W base spare held t1 a1 b1 c1 ∧ DataW.Trod enc P W base spare held t2 a2 b2 c2 ∧ DataW.Trod enc P W base spare held t3 a3 b3 c3 ∧ DataW.Trod enc P W base spare held t4 a4 b4 c4 ∧ DataW.Trod enc P W base spare held t5 a5 b5 c5 := by
  obtain ⟨a0, r0, b0, e0, c0, f0, hargs, rfl, rfl, g0, k0⟩ := trodAll_cons h
  obtain ⟨a1, r1, b1, e1, c1, f1, rfl, rfl, rfl, g1, k1⟩ := trodAll_cons k0
  obtain ⟨a2, r2, b2, e2, c2, f2, rfl, rfl, rfl, g2, k2⟩ := trodAll_cons k1
  obtain ⟨a3, r3, b3, e3, c3, f3, rfl, rfl, rfl, g3, k3⟩ := trodAll_cons k2
  obtain ⟨a4, r4, b4, e4, c4, f4, rfl, rfl, rfl, g4, k4⟩ := trodAll_cons k3
  obtain ⟨a5, r5, b5, e5, c5, f5, rfl, rfl, rfl, g5, k5⟩ := trodAll_cons k4
  obtain ⟨rfl, rfl, rfl⟩ := trodAll_nil k5
  exact ⟨a0, a1, a2, a3, a4, a5, b0, b1, b2, b3, b4, b5, c0, c1, c2, c3, c4, c5, by cases args; simp_all, rfl, by simp, g0, g1, g2, g3, g4, g5⟩
theorem sized_at {ts : List TypeId} {ds : List (DataW H)} (hz : (DataW.weightsEach P ts ds).all (· ≤ reachBytes) = true) {j : Nat} {t : TypeId} {d : DataW H} (ht : ts[j]? = some t) (hd : ds[j]? = some d) : ∀ n ∈ d.weights P t, n ≤ reachBytes := fun n hn => by
  have := List.all_eq_true.1 hz n (DataW.weights_mem_each ht hd n hn)
  simpa using this
end
end Go.Proofs.Ytgkcmjmofcekmaa.Sx
