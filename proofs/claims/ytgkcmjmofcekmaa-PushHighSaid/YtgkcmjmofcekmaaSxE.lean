/- The walk's rules: append; regions that draw their order. Plain laws over any program. -/
import Derived.Test.YtgkcmjmofcekmaaSxD
namespace Go.Proofs.Ytgkcmjmofcekmaa.Sx
open Go
set_option linter.unusedVariables false
set_option linter.unusedSimpArgs false

/-! ### append -/
/-- What is appended: so many elements. -/
def Src (H : List HL) (q : D) (size n : Nat) (get : Nat → Nat → D) : Prop := ∀ I w v, (∀ h, h ∈ H → h.ok I w) → Rd I w q v → ∃ a c, v = .slice a n c ∧
  (0 < n → ∃ g o, a = some ⟨g, o, none⟩ ∧ ∀ e, e < n → ∀ f, f < size → ∃ u, w.cell? ⟨g, o + (e * size + f), none⟩ = some u ∧ u.oneCell' = true ∧ Rd I w (get e f) u)
theorem Src.own {H H' : List HL} {β : BK} {t : TypeId} {size r len : Nat} {c : C} (hm : At H (.one β t size c) (.one β t size c) H') (hl : r + len ≤ c.len) : Src H (.own β size r len) size len (fun e f => c.get (e + r) f) := by
  rintro I w v hok ⟨a, cap, rfl, h1, h2, h3, h4⟩
  refine ⟨a, cap, rfl, fun h0 => ⟨β.b, β.o + r * size, h4 (by omega), fun e he f hf => ?_⟩⟩
  have hb : BOk I w β t size c := hok _ hm.mem
  obtain ⟨u, hu, ho, hr⟩ := hb.cell (show e + r < c.len by omega) hf
  exact ⟨u, by rw [show β.o + r * size + (e * size + f) = β.o + ((e + r) * size + f) by rw [Nat.add_mul]; omega]; exact hu, ho, hr⟩
theorem Src.sl {H : List HL} {size len : Nat} {get : Nat → Nat → D} : Src H (.sl size len get) size len get := by
  rintro I w v _ ⟨a, cap, rfl, h1, h2, h3⟩
  refine ⟨a, cap, rfl, fun h0 => ?_⟩
  obtain ⟨g, o, ha, _, hc⟩ := h3 h0
  exact ⟨g, o, ha, hc⟩
theorem Src.nil {H : List HL} {size : Nat} {get : Nat → Nat → D} {a : Option Addr} {c : Nat} : Src H (.v (.slice a 0 c)) size 0 get := by
  rintro I w v _ hv
  exact ⟨a, c, hv, fun h => absurd h (by omega)⟩
theorem Src.e0 {H : List HL} {size : Nat} {get : Nat → Nat → D} : Src H .e0 size 0 get := by
  rintro I w v _ ⟨a, hv⟩
  exact ⟨a, 0, hv, fun h => absurd h (by omega)⟩

/-- c' holds len elements of c from r on, and n more. -/
structure Cat (size : Nat) (c : C) (r len n : Nat) (get : Nat → Nat → D) (c' : C) : Prop where
  hlen : c'.len = len + n
  hold : ∀ e f, e < len → f < size → c'.get e f = c.get (e + r) f
  hnew : ∀ e f, e < n → f < size → c'.get (len + e) f = get e f
theorem cat_ints {xs ys : List Int} : Cat 1 (ints xs) 0 xs.length ys.length (ints ys).get (ints (xs ++ ys)) :=
  ⟨by simp [ints], fun e f he _ => by simp [ints, he, List.getElem?_append_left], fun e f _ _ => by
    simp only [ints, List.getD_eq_getElem?_getD]
    rw [List.getElem?_append_right (by omega), Nat.add_sub_cancel_left]⟩
theorem cat_int1 {xs : List Int} {g : Nat → Nat → D} {v : Int} (h : g 0 0 = .v (.int .i64 v)) : Cat 1 (ints xs) 0 xs.length 1 g (ints (xs ++ [v])) :=
  ⟨by simp [ints], fun e f he _ => by simp [ints, he, List.getElem?_append_left], fun e f he hf => by
    have he0 : e = 0 := by omega
    have hf0 : f = 0 := by omega
    subst he0 hf0
    rw [h]; simp [ints]⟩
/-- from the r-th on -/
theorem cat_int1d {xs : List Int} {r len : Nat} {g : Nat → Nat → D} {v : Int} (hr : r + len = xs.length) (h : g 0 0 = .v (.int .i64 v)) : Cat 1 (ints xs) r len 1 g (ints (xs.drop r ++ [v])) :=
  ⟨by simp [ints]; omega, fun e f he _ => by
    have h1 : e < (xs.drop r).length := by simp; omega
    simp only [ints, List.getD_eq_getElem?_getD, List.getElem?_append_left h1, List.getElem?_drop]
    rw [Nat.add_comm], fun e f he hf => by
    have he0 : e = 0 := by omega
    have hf0 : f = 0 := by omega
    subst he0 hf0
    rw [h]
    have h1 : (xs.drop r).length = len := by simp; omega
    simp [ints, ← h1]⟩
theorem cat_bool1 {xs : List Bool} {g : Nat → Nat → D} {v : Bool} (h : g 0 0 = .v (.bool v)) : Cat 1 (bools xs) 0 xs.length 1 g (bools (xs ++ [v])) :=
  ⟨by simp [bools], fun e f he _ => by simp [bools, he, List.getElem?_append_left], fun e f he hf => by
    have he0 : e = 0 := by omega
    have hf0 : f = 0 := by omega
    subst he0 hf0
    rw [h]; simp [bools]⟩
/-- onto nothing -/
theorem cat_new {size n : Nat} {get : Nat → Nat → D} {c' : C} (c : C) (h1 : c'.len = n) (h2 : ∀ e f, e < n → f < size → c'.get e f = get e f) : Cat size c 0 0 n get c' :=
  ⟨by omega, fun e f he => absurd he (by omega), fun e f he hf => by rw [Nat.zero_add]; exact h2 e f he hf⟩

theorem list_cells {I : Nat → Prop} {w : World} {g o size n : Nat} {get : Nat → Nat → D} (h : ∀ e, e < n → ∀ f, f < size → ∃ u, w.cell? ⟨g, o + (e * size + f), none⟩ = some u ∧ u.oneCell' = true ∧ Rd I w (get e f) u) :
    ∃ vs : List Value, vs.length = n * size ∧ (∀ j u, vs[j]? = some u → w.cell? ((⟨g, o, none⟩ : Addr).add j) = some u) ∧ (∀ u, u ∈ vs → u.oneCell' = true) ∧
      ∀ e, e < n → ∀ f, f < size → ∃ u, vs[e * size + f]? = some u ∧ u.oneCell' = true ∧ Rd I w (get e f) u := by
  have hc : ∀ j, ∃ u, j < n * size → w.cell? ⟨g, o + j, none⟩ = some u ∧ u.oneCell' = true ∧ Rd I w (get (j / size) (j % size)) u := fun j => by
    by_cases hj : j < n * size
    · have hs : 0 < size := by
        rcases Nat.eq_zero_or_pos size with h0 | h0
        · subst h0; simp at hj
        · exact h0
      have h1 : j / size < n := (Nat.div_lt_iff_lt_mul hs).2 hj
      have h2 := Nat.mod_lt j hs
      obtain ⟨u, hu⟩ := h (j / size) h1 (j % size) h2
      have e : j / size * size + j % size = j := by rw [Nat.mul_comm]; exact Nat.div_add_mod j size
      rw [e] at hu
      exact ⟨u, fun _ => hu⟩
    · exact ⟨undef, fun h => absurd h hj⟩
  obtain ⟨F, hF⟩ := Classical.axiomOfChoice hc
  refine ⟨(List.range (n * size)).map F, by simp, fun j u hu => ?_, fun u hu => ?_, fun e he f hf => ?_⟩
  · have hj : j < n * size := by
      have := (List.getElem?_eq_some_iff.1 hu).1
      simpa using this
    simp [hj] at hu
    rw [addr_add, ← hu]
    exact (hF j hj).1
  · obtain ⟨j, hj, rfl⟩ := List.mem_map.1 hu
    exact (hF j (List.mem_range.1 hj)).2.1
  · have hlt := le_cells (s := n) (size := size) (e := e) (f := f + 1) he (by omega)
    have hlt' : e * size + f < n * size := by omega
    refine ⟨F (e * size + f), by simp [hlt'], (hF _ hlt').2.1, ?_⟩
    have h3 := (hF _ hlt').2.2
    have e1 : (e * size + f) / size = e := by rw [Nat.mul_comm, Nat.mul_add_div (by omega), Nat.div_eq_of_lt hf, Nat.add_zero]
    have e2 : (e * size + f) % size = f := by rw [Nat.mul_comm, Nat.mul_add_mod, Nat.mod_eq_of_lt hf]
    rwa [e1, e2] at h3

section
variable {X : Cx} {s : St} {d : Tmp} {ty : TypeId} {pos : String} {aft : Array Edge} {gd : Option (Nat × Bool)} {x y : Operand} {q : D}

/-- The run of an append, whatever its two slices. -/
theorem run_append_all {P : Program} {w : World} {t ty e : TypeId} {i : TypeInfo} {z : Value} (ht : P.underlying t = some (.slice e)) (hi : P.info? e = some i) (hz : i.zero = some z)
    {ad : Option Addr} {len cap : Nat} (hlc : len ≤ cap) {g o : Nat} (had : 0 < cap → ad = some ⟨g, o, none⟩) {olds : List Value} (ho1 : olds.length = len * i.size) (ho2 : ∀ j u, olds[j]? = some u → w.cell? ((⟨g, o, none⟩ : Addr).add j) = some u)
    {a2 : Option Addr} {n c2 : Nat} {news : List Value} (hn1 : news.length = n * i.size) (ha2 : 0 < n → ∃ g2 o2, a2 = some ⟨g2, o2, none⟩ ∧ ∀ j u, news[j]? = some u → w.cell? ((⟨g2, o2, none⟩ : Addr).add j) = some u) (hn2 : ∀ u, u ∈ news → u.oneCell' = true)
    (hb : (len + n) * i.bytes ≤ 140737488355328) (hb1 : 1 ≤ i.bytes)
    (hcell : 0 < cap → ∃ cs, w.heap[g]? = some (.cells cs e (0, 0)) ∧ o + cap * i.size ≤ cs.size) :
    (len + n ≤ cap ∧ (cap = 0 ∧ (Builtin.append_ #[t, t] ty #[.slice ad len cap, .slice a2 n c2]).run P w = .ok (.slice ad 0 0) w ∨
      0 < cap ∧ ∃ cs, w.heap[g]? = some (.cells cs e (0, 0)) ∧ o + len * i.size + news.length ≤ cs.size ∧ (Builtin.append_ #[t, t] ty #[.slice ad len cap, .slice a2 n c2]).run P w = .ok (.slice ad (len + n) cap) (w.setRow g (splice cs (o + len * i.size) news)))) ∨
    (cap < len + n ∧ ∃ cap', len + n ≤ cap' ∧ cap' ≤ maxLen ∧ (Builtin.append_ #[t, t] ty #[.slice ad len cap, .slice a2 n c2]).run P w = .ok (.slice (some ⟨w.heap.size, 0, none⟩) (len + n) cap') (w.drew.alloc (.cells (olds.toArray ++ news.toArray ++ Builtin.zeroCells z.cells (cap' - (len + n))) e))) := by
  have hnb : len + n ≤ 140737488355328 := by
    have : (len + n) * 1 ≤ (len + n) * i.bytes := Nat.mul_le_mul_left _ hb1
    omega
  have hfc : ∀ w' : World, w'.heap = w.heap → (Builtin.firstCells i.size n (.slice a2 n c2)).run P w' = .ok news.toArray w' := fun w' hw => by
    rcases Nat.eq_zero_or_pos n with h0 | h0
    · subst h0
      have : news = [] := List.eq_nil_of_length_eq_zero (by simpa using hn1)
      subst this
      cases a2 <;> simp [Builtin.firstCells, loadCells, loadCellsFrom]
    · obtain ⟨g2, o2, rfl, h2⟩ := ha2 h0
      exact run_firstCells_some w' i.size n _ n c2 news hn1 (fun j u hu => by
        have := h2 j u hu
        simpa [World.cell?, hw] using this)
  by_cases hroom : len + n ≤ cap
  · refine .inl ⟨hroom, ?_⟩
    rcases Nat.eq_zero_or_pos cap with hc0 | hc0
    · left
      refine ⟨hc0, ?_⟩
      have hl0 : len = 0 := by omega
      have hn0 : n = 0 := by omega
      subst hl0 hn0 hc0
      have : news = [] := List.eq_nil_of_length_eq_zero (by simpa using hn1)
      subst this
      have h1 := hfc w rfl
      cases ad <;> simp [Builtin.append_, run_underlying ht, sizeOf, typeInfo, hi, Builtin.lenOf, h1, storeCells]
    · right
      refine ⟨hc0, ?_⟩
      obtain ⟨cs, hg, hsz⟩ := hcell hc0
      have hfit : o + len * i.size + news.length ≤ cs.size := by
        have : (len + n) * i.size ≤ cap * i.size := Nat.mul_le_mul_right _ hroom
        rw [Nat.add_mul] at this
        omega
      refine ⟨cs, hg, hfit, ?_⟩
      have hst := run_storeCells_at P g (o + len * i.size) e news 0 cs w hg (by simpa using hfit) hn2
      simp only [Nat.add_zero] at hst
      rw [had hc0]
      simp only [Builtin.append_]
      simp [run_underlying ht, sizeOf, typeInfo, hi, Builtin.lenOf, hroom, hfc w rfl, addr_add, hst, splice]
  · refine .inr ⟨by omega, ?_⟩
    have h63 : ((len + n : Nat) : Int) ≤ 9223372036854775807 := by omega
    have hfits := growslice_fits (need := len + n) (old := cap) (bytes := i.bytes) (by omega) hb
    refine ⟨grownCap w (len + n) cap e, grownCap_ge w _ _ _, grownCap_le_maxLen w _ _ _ (by unfold maxLen; omega), ?_⟩
    have hn : ¬ (len + n ≤ cap) := hroom
    have h63' : ¬ (9223372036854775807 < ((len : Int) + (n : Int))) := by omega
    have h48' : ¬ (281474976710656 < Builtin.nextslicecap (len + n) cap * i.bytes) := by omega
    have hfo : (Builtin.firstCells i.size len (.slice ad len cap)).run P w.drew = .ok olds.toArray w.drew := by
      rcases Nat.eq_zero_or_pos len with h0 | h0
      · subst h0
        have : olds = [] := List.eq_nil_of_length_eq_zero (by simpa using ho1)
        subst this
        cases ad <;> simp [Builtin.firstCells, loadCells, loadCellsFrom]
      · rw [had (by omega)]
        exact run_firstCells_some w.drew i.size len _ len cap olds ho1 (fun j u hu => by simpa using ho2 j u hu)
    have hf := hfc w.drew rfl
    simp [Builtin.append_, run_underlying ht, sizeOf, typeInfo, zeroValue, hi, hz, Builtin.lenOf, hn, h63', h48', Question.forced, hf, hfo, newRow, grownCap]
    congr 2
    apply Array.ext'
    simp [List.append_assoc]

theorem ef_append_core {t e : TypeId} {size bytes : Nat} {zv : Value} [ht : SlT X.P t e] [hz : ZI X.P e size bytes zv] {β : BK} {r len n : Nat} {c c' : C} {get : Nat → Nat → D} {H : List HL} {wr : List HL}
    (hsz : 0 < size) (hb1 : 1 ≤ bytes) (hcat : Cat size c r len n get c') (hb : (len + n) * bytes ≤ 140737488355328)
    {I : Nat → Prop} {a : Act} {w : World} (hs : Sat X I s a w) {Q : Exit → Act → World → Prop} (hy : ∃ a2 c2, a.eval y = .slice a2 n c2 ∧ (0 < n → ∃ g o, a2 = some ⟨g, o, none⟩ ∧ ∀ e, e < n → ∀ f, f < size → ∃ u, w.cell? ⟨g, o + (e * size + f), none⟩ = some u ∧ u.oneCell' = true ∧ Rd I w (get e f) u))
    (hx : Rd I w (.own β size r len) (a.eval x)) (hbok : BOk I w β e size c) (hrl : r + len ≤ c.len) (hd : Nat.blt d X.nt = true)
    (hperm : (0 < β.s ∧ wr = [.one β e size c] ∧ s.heap.Perm (.one β e size c :: H)) ∨ (β.s = 0 ∧ wr = [] ∧ s.heap = H)) :
    Oper.wp X.P ⟨some d, .call { callee := .builtin .append, args := #[x, y], argTypes := #[t, t] }, ty, pos, aft, gd⟩ a w
      (fun a' w' => Same w w' (fps wr) ∧ ∃ s', (∃ β' : BK, s' = ⟨(d, .own β' size 0 (len + n)) :: s.env, .one β' e size c' :: H⟩) ∧ Sat X I s' a' w') Q := by
  obtain ⟨i, h1, h2, h3, h4, h5, h6⟩ := hz.h
  obtain ⟨a2, c2, hy1, hy2⟩ := hy
  obtain ⟨ad, cap, hx1, g1, g2, g3, g4⟩ := hx
  -- the old cells, and the new ones
  have holds : ∃ olds : List Value, olds.length = len * size ∧ (∀ j u, olds[j]? = some u → w.cell? ((⟨β.b, β.o + r * size, none⟩ : Addr).add j) = some u) ∧ (∀ u, u ∈ olds → u.oneCell' = true) ∧
      ∀ e', e' < len → ∀ f, f < size → ∃ u, olds[e' * size + f]? = some u ∧ u.oneCell' = true ∧ Rd I w (c'.get e' f) u :=
    list_cells fun e' he' f hf => by
      obtain ⟨u, hu, ho, hr⟩ := hbok.cell (show e' + r < c.len by omega) hf
      exact ⟨u, by rw [show β.o + r * size + (e' * size + f) = β.o + ((e' + r) * size + f) by rw [Nat.add_mul]; omega]; exact hu, ho, by rw [hcat.hold e' f he' hf]; exact hr⟩
  obtain ⟨olds, o1, o2, o3, o4⟩ := holds
  have hnews : ∃ news : List Value, news.length = n * size ∧ (0 < n → ∃ g o, a2 = some ⟨g, o, none⟩ ∧ ∀ j u, news[j]? = some u → w.cell? ((⟨g, o, none⟩ : Addr).add j) = some u) ∧ (∀ u, u ∈ news → u.oneCell' = true) ∧
      ∀ e', e' < n → ∀ f, f < size → ∃ u, news[e' * size + f]? = some u ∧ u.oneCell' = true ∧ Rd I w (c'.get (len + e') f) u := by
    rcases Nat.eq_zero_or_pos n with h0 | h0
    · subst h0
      exact ⟨[], by simp, fun h => absurd h (by omega), by simp, fun e' he' => absurd he' (by omega)⟩
    · obtain ⟨g, o, ha, hc⟩ := hy2 h0
      obtain ⟨vs, v1, v2, v3, v4⟩ := list_cells (get := fun e' f => c'.get (len + e') f) fun e' he' f hf => by
        obtain ⟨u, hu, ho, hr⟩ := hc e' he' f hf
        exact ⟨u, hu, ho, by show Rd I w (c'.get (len + e') f) u; rw [hcat.hnew e' f he' hf]; exact hr⟩
      exact ⟨vs, v1, fun _ => ⟨g, o, ha, v2⟩, v3, v4⟩
  obtain ⟨news, n1, n2, n3, n4⟩ := hnews
  have hall : ∀ e', e' < c'.len → ∀ f, f < size → ∃ u, (olds ++ news)[e' * size + f]? = some u ∧ u.oneCell' = true ∧ Rd I w (c'.get e' f) u := fun e' he' f hf => by
    rw [hcat.hlen] at he'
    by_cases hlt : e' < len
    · obtain ⟨u, hu, ho, hr⟩ := o4 e' hlt f hf
      refine ⟨u, ?_, ho, hr⟩
      rw [List.getElem?_append_left (List.getElem?_eq_some_iff.1 hu).1]
      exact hu
    · obtain ⟨u, hu, ho, hr⟩ := n4 (e' - len) (by omega) f hf
      rw [show len + (e' - len) = e' by omega] at hr
      refine ⟨u, ?_, ho, hr⟩
      have hle : len * size ≤ e' * size := Nat.mul_le_mul_right _ (by omega)
      rw [List.getElem?_append_right (by rw [o1]; omega), o1, show e' * size + f - len * size = (e' - len) * size + f by rw [Nat.sub_mul]; omega]
      exact hu
  have hown : 0 < β.s → ¬ I β.b ∧ (X.w0.heap.size ≤ β.b ∨ X.may β.b) ∧ β.b < w.heap.size := fun hpos => by
    rcases hperm with ⟨_, _, hp⟩ | ⟨h0, _⟩
    · exact hs.own β.b ⟨_, hp.mem_iff.2 (List.mem_cons_self ..), hpos, rfl⟩
    · omega
  have hrun := run_append_all (P := X.P) (w := w) (ty := ty) ht.h h1 h2 (ad := ad) (cap := cap) g1 g4 (olds := olds) (by rw [o1, h3]) o2 (a2 := a2) (c2 := c2) (news := news) (by rw [n1, h3]) n2 n3 (by rw [h4]; exact hb) (by rw [h4]; exact hb1)
    (fun hc0 => by
      obtain ⟨cs, e1, e2, _⟩ := hbok.2 (by omega)
      refine ⟨cs, e1, ?_⟩
      have : (r + cap) * size ≤ β.s * size := Nat.mul_le_mul_right _ g3
      rw [Nat.add_mul] at this
      rw [e2, h3]
      omega)
  have hexec : ∀ v w', (Builtin.append_ #[t, t] ty #[.slice ad len cap, .slice a2 n c2]).run X.P w = .ok v w' →
      (execOp a.eval ⟨some d, .call { callee := .builtin .append, args := #[x, y], argTypes := #[t, t] }, ty, pos, aft, gd⟩).run X.P w = .ok (.value v) w' := fun v w' h => by
    simp only [execOp, resolve, invoke, builtin, Sem.run_bind, Sem.run_pure, Result.andThen_ok, List.map_toArray, List.map_cons, List.map_nil, hx1, hy1, h]
  rcases hrun with ⟨hroom, ⟨hc0, hr⟩ | ⟨hc0, cs, hg, hfit, hr⟩⟩ | ⟨hgrow, cap', hge, hmx, hr⟩
  · -- nothing at all
    have hl0 : len = 0 := by omega
    have hn0 : n = 0 := by omega
    subst hl0 hn0
    have hc'0 : c'.len = 0 := by rw [hcat.hlen]
    refine wp_val (hexec _ _ hr) ⟨Same.refl _ _, _, ⟨⟨0, 0, 0⟩, rfl⟩, ?_⟩
    have hsub : ∀ z, z ∈ H → z ∈ s.heap := fun z hz => by
      rcases hperm with ⟨_, _, hp⟩ | ⟨_, _, he⟩
      · exact hp.mem_iff.2 (List.mem_cons_of_mem _ hz)
      · rw [he]; exact hz
    have hsep : Sep H := by
      rcases hperm with ⟨_, _, hp⟩ | ⟨_, _, he⟩
      · exact (List.pairwise_cons.1 (sep_perm hp hs.sep)).2
      · rw [← he]; exact hs.sep
    have hsat : Sat X I ⟨s.env, .one ⟨0, 0, 0⟩ e size c' :: H⟩ a w := ⟨hs.tsz, hs.dfr, hs.env, fun z hz => by
        rcases List.mem_cons.1 hz with rfl | hz
        · exact ⟨by rw [hc'0]; exact Nat.zero_le _, fun h => absurd h (by simp)⟩
        · exact hs.heap z (hsub z hz), List.pairwise_cons.2 ⟨fun z _ b hb => absurd hb.1 (by simp), hsep⟩, fun b ⟨z, hz, hzb⟩ => by
        rcases List.mem_cons.1 hz with rfl | hz
        · exact absurd hzb.1 (by simp)
        · exact hs.own b ⟨z, hsub z hz, hzb⟩, hs.imm, hs.i0, hs.same⟩
    exact hsat.put (blt_lt hd) ⟨ad, 0, rfl, by omega, by unfold maxLen; omega, by simp, fun h => absurd h (by omega)⟩
  · -- there is room
    have hpos : 0 < β.s := by omega
    obtain ⟨hnI, hmay, hlt⟩ := hown hpos
    rcases hperm with ⟨_, hwr, hp⟩ | ⟨h0, _⟩
    case inr => omega
    subst hwr
    have hfit' : β.o + r * size + len * size + news.length ≤ cs.size := by rw [h3] at hfit; exact hfit
    have hsame : Same w (w.setRow β.b (splice cs (β.o + r * size + len * i.size) news)) (HL.one β e size c).fp := (Same.setRow w β.b _).mono fun i hi => ⟨hpos, hi⟩
    refine wp_val (hexec _ _ hr) ⟨hsame.mono fun i hi => fps_one hi, _, ⟨⟨β.b, β.o + r * size, β.s - r⟩, rfl⟩, ?_⟩
    rw [h3]
    rw [h3] at hsame
    obtain ⟨cs1, e1, e2, e3⟩ := hbok.2 hpos
    have hcs : cs1 = cs := by rw [e1] at hg; injection hg with hg; injection hg
    subst hcs
    have hmono : ∀ dd u, Rd I w dd u → Rd I (w.setRow β.b (splice cs1 (β.o + r * size + len * size) news)) dd u :=
      fun dd u hr => hr.mono (fun _ h => h) (fun b hb => setRow_other w β.b b _ (fun e => hnI (e ▸ hb)))
    have hsat0 : Sat X I ⟨s.env, .one β e size c :: H⟩ a w := ⟨hs.tsz, hs.dfr, hs.env, fun z hz => hs.heap z (hp.mem_iff.2 hz), sep_perm hp hs.sep, fun b hb => hs.own b ((fps_perm hp b).2 hb), hs.imm, hs.i0, hs.same⟩
    have hy' : (HL.one ⟨β.b, β.o + r * size, β.s - r⟩ e size c').ok I (w.setRow β.b (splice cs1 (β.o + r * size + len * size) news)) := by
      refine ⟨by rw [hcat.hlen]; show len + n ≤ β.s - r; omega, fun _ => ⟨splice cs1 (β.o + r * size + len * size) news, setRow_heap w β.b cs1 _ e (0, 0) hg, ?_, fun e' he' f hf => ?_⟩⟩
      · rw [size_splice _ _ _ hfit', e2]
        show β.o + β.s * size = β.o + r * size + (β.s - r) * size
        rw [Nat.sub_mul]
        have : r * size ≤ β.s * size := Nat.mul_le_mul_right _ (by omega)
        omega
      · obtain ⟨u, hu, ho, hrr⟩ := hall e' he' f hf
        refine ⟨u, ?_, ho, hmono _ _ hrr⟩
        show (splice cs1 (β.o + r * size + len * size) news)[β.o + r * size + (e' * size + f)]? = some u
        rw [get_splice _ _ _ hfit']
        by_cases hl : e' < len
        · have h7 := le_cells (s := len) (size := size) (e := e') (f := f + 1) hl (by omega)
          rw [if_neg (by omega)]
          rw [List.getElem?_append_left (by rw [o1]; omega)] at hu
          have h8 := o2 _ u hu
          rw [addr_add, cell_of_row w β.b _ cs1 e (0, 0) hg] at h8
          exact h8
        · have hle : len * size ≤ e' * size := Nat.mul_le_mul_right _ (by omega)
          rw [List.getElem?_append_right (by rw [o1]; omega), o1] at hu
          have h9 : e' * size + f - len * size < news.length := (List.getElem?_eq_some_iff.1 hu).1
          rw [if_pos ⟨by omega, by omega⟩, show β.o + r * size + (e' * size + f) - (β.o + r * size + len * size) = e' * size + f - len * size by omega]
          exact hu
    have hsat1 := hsat0.turn (.head _ (.one ⟨β.b, β.o + r * size, β.s - r⟩ e size c') H) hsame hy' fun b hb => ⟨.inl ⟨hpos, hb.2⟩, by rw [hb.2]; simpa using hlt⟩
    exact hsat1.put (blt_lt hd) ⟨ad, cap, rfl, hroom, g2, by show 0 + cap ≤ β.s - r; omega, fun h => by rw [g4 h]; simp⟩
  · -- it grows
    have hge' := hge
    refine wp_val (hexec _ _ hr) ⟨(Same.drew w _).trans (Same.alloc w.drew _ _), _, ⟨⟨w.heap.size, 0, cap'⟩, rfl⟩, ?_⟩
    have hzs : (Builtin.zeroCells zv.cells (cap' - (len + n))).size = (cap' - (len + n)) * size := by rw [size_zeroCells, h5]
    have hsz' : (olds.toArray ++ news.toArray ++ Builtin.zeroCells zv.cells (cap' - (len + n))).size = cap' * size := by
      simp only [Array.size_append, List.size_toArray, hzs, o1, n1, ← Nat.add_mul]
      congr 1
      omega
    have hsub : ∀ z, z ∈ H → z ∈ s.heap := fun z hz => by
      rcases hperm with ⟨_, _, hp⟩ | ⟨_, _, he⟩
      · exact hp.mem_iff.2 (List.mem_cons_of_mem _ hz)
      · rw [he]; exact hz
    have hsep : Sep H := by
      rcases hperm with ⟨_, _, hp⟩ | ⟨_, _, he⟩
      · exact (List.pairwise_cons.1 (sep_perm hp hs.sep)).2
      · rw [← he]; exact hs.sep
    have hsatH : Sat X I ⟨s.env, H⟩ a w.drew := Sat.drew ⟨hs.tsz, hs.dfr, hs.env, fun z hz => hs.heap z (hsub z hz), hsep, fun b ⟨z, hz, hzb⟩ => hs.own b ⟨z, hsub z hz, hzb⟩, hs.imm, hs.i0, hs.same⟩
    have hfr := hsatH.fresh (olds.toArray ++ news.toArray ++ Builtin.zeroCells zv.cells (cap' - (len + n))) e cap' size c' hsz' (by rw [hcat.hlen]; exact hge) fun e' he' f hf => by
      obtain ⟨u, hu, ho, hrr⟩ := hall e' he' f hf
      have hlt : e' * size + f < (olds ++ news).length := (List.getElem?_eq_some_iff.1 hu).1
      refine ⟨u, ?_, ho, Rd.mono (w := w) (w' := w.drew) (fun _ h => h) (fun _ _ => rfl) _ _ hrr⟩
      rw [Array.getElem?_append_left (by simpa using hlt)]
      simpa using hu
    exact hfr.put (blt_lt hd) ⟨some ⟨w.heap.size, 0, none⟩, cap', rfl, hge, hmx, by simp, fun _ => by simp⟩

theorem ef_append {t e : TypeId} {size bytes : Nat} {zv : Value} [ht : SlT X.P t e] [hz : ZI X.P e size bytes zv] {β : BK} {r len n : Nat} {c c' : C} {get : Nat → Nat → D} {H : List HL}
    (hx : s.ev x = some (.own β size r len)) (hy : s.ev y = some q) (hrem : Rem s.heap (.one β e size c) H) (hsrc : Src s.heap q size n get) (hcat : Cat size c r len n get c') (hrl : r + len ≤ c.len)
    (hb : (len + n) * bytes ≤ 140737488355328) (hsz : Nat.blt 0 size = true) (hb1 : Nat.blt 0 bytes = true) (hd : Nat.blt d X.nt = true) :
    Eff X ⟨some d, .call { callee := .builtin .append, args := #[x, y], argTypes := #[t, t] }, ty, pos, aft, gd⟩ s [.one β e size c] (fun s2 => ∃ β' : BK, s2 = ⟨(d, .own β' size 0 (len + n)) :: s.env, .one β' e size c' :: H⟩) := fun I a w hs Q => by
  have hp := hrem.perm
  have hbok : BOk I w β e size c := hs.heap _ (hp.mem_iff.2 (List.mem_cons_self ..))
  rcases Nat.eq_zero_or_pos β.s with h0 | h0
  · have hs' : Sat X I ⟨s.env, H⟩ a w := ⟨hs.tsz, hs.dfr, hs.env, fun z hz => hs.heap z (hp.mem_iff.2 (List.mem_cons_of_mem _ hz)), (List.pairwise_cons.1 (sep_perm hp hs.sep)).2, fun b ⟨z, hz, hzb⟩ => hs.own b ⟨z, hp.mem_iff.2 (List.mem_cons_of_mem _ hz), hzb⟩, hs.imm, hs.i0, hs.same⟩
    have := ef_append_core (t := t) (e := e) (s := ⟨s.env, H⟩) (H := H) (wr := []) (d := d) (ty := ty) (pos := pos) (aft := aft) (gd := gd) (x := x) (Q := Q) (blt_lt hsz) (blt_lt hb1) hcat hb hs' (hsrc I w _ hs.heap (hs.ev hy)) (hs.ev hx) hbok hrl hd (.inr ⟨h0, rfl, rfl⟩)
    exact Oper.wp_mono (fun a' w' ⟨h1, h2⟩ => ⟨h1.mono fun b ⟨z, hz, _⟩ => (by cases hz), h2⟩) this
  · exact ef_append_core (H := H) (wr := [.one β e size c]) (blt_lt hsz) (blt_lt hb1) hcat hb hs (hsrc I w _ hs.heap (hs.ev hy)) (hs.ev hx) hbok hrl hd (.inl ⟨h0, rfl, hp⟩)

/-- onto a slice of capacity 0 -/
theorem ef_append0 {t e : TypeId} {size bytes : Nat} {zv : Value} [ht : SlT X.P t e] [hz : ZI X.P e size bytes zv] {n : Nat} {c' : C} {get : Nat → Nat → D} {qx : D}
    (hx : s.ev x = some qx) (hqx : qx = .v (.slice none 0 0) ∨ qx = .e0) (hy : s.ev y = some q) (hsrc : Src s.heap q size n get) (hcat : Cat size ⟨0, fun _ _ => .junk⟩ 0 0 n get c')
    (hb : n * bytes ≤ 140737488355328) (hsz : Nat.blt 0 size = true) (hb1 : Nat.blt 0 bytes = true) (hd : Nat.blt d X.nt = true) :
    Eff X ⟨some d, .call { callee := .builtin .append, args := #[x, y], argTypes := #[t, t] }, ty, pos, aft, gd⟩ s [] (fun s2 => ∃ β' : BK, s2 = ⟨(d, .own β' size 0 n) :: s.env, .one β' e size c' :: s.heap⟩) := fun I a w hs Q => by
  have hr : Rd I w (.own ⟨0, 0, 0⟩ size 0 0) (a.eval x) := by
    have h := hs.ev hx
    rcases hqx with e | e
    · subst e
      have h' : a.eval x = .slice none 0 0 := h
      exact ⟨none, 0, h', Nat.le_refl _, by unfold maxLen; omega, by simp, fun h => absurd h (by omega)⟩
    · subst e
      obtain ⟨ad, h'⟩ := h
      exact ⟨ad, 0, h', Nat.le_refl _, by unfold maxLen; omega, by simp, fun h => absurd h (by omega)⟩
  have := ef_append_core (t := t) (e := e) (H := s.heap) (wr := []) (d := d) (ty := ty) (pos := pos) (aft := aft) (gd := gd) (x := x) (y := y) (Q := Q) (β := ⟨0, 0, 0⟩) (r := 0) (len := 0) (c := ⟨0, fun _ _ => .junk⟩) (blt_lt hsz) (blt_lt hb1) hcat (by simpa using hb) hs (hsrc I w _ hs.heap (hs.ev hy)) hr ⟨Nat.le_refl _, fun h => absurd h (by simp)⟩ (by simp) hd (.inr ⟨rfl, rfl, rfl⟩)
  simpa using this
end
/-- No slice: as a row of nothing that a loop may append to. -/
theorem le_nil {s : St} (k : Nat) (t : TypeId) (size : Nat) (c : C) (hk : look s.env k = some (.v (.slice none 0 0))) (hc : c.len = 0) : Le s ⟨(k, .own ⟨0, 0, 0⟩ size 0 0) :: s.env, .one ⟨0, 0, 0⟩ t size c :: s.heap⟩ := fun X I a w hs =>
  have hf : ∀ b, ¬ (HL.one ⟨0, 0, 0⟩ t size c).fp b := fun b h => absurd h.1 (by simp)
  ⟨hs.tsz, hs.dfr, fun i d hi => by
      simp only [look] at hi
      cases h1 : Nat.beq k i with
      | false => exact hs.env i d (by simpa [h1] using hi)
      | true =>
        have e := Nat.eq_of_beq_eq_true h1
        subst e
        have e2 : D.own ⟨0, 0, 0⟩ size 0 0 = d := by simpa [h1] using hi
        subst e2
        have h := hs.env k _ hk
        exact ⟨none, 0, h, by simp, by simp, by simp, by simp⟩,
    fun z hz => by
      rcases List.mem_cons.1 hz with rfl | hz
      · exact ⟨by simp [hc], fun h => absurd h (by simp)⟩
      · exact hs.heap z hz,
    List.pairwise_cons.2 ⟨fun z hz b hb => absurd hb (hf b), hs.sep⟩,
    fun b ⟨z, hz, hzb⟩ => by
      rcases List.mem_cons.1 hz with rfl | hz
      · exact absurd hzb (hf b)
      · exact hs.own b ⟨z, hz, hzb⟩, hs.imm, hs.i0, hs.same⟩
end Go.Proofs.Ytgkcmjmofcekmaa.Sx
