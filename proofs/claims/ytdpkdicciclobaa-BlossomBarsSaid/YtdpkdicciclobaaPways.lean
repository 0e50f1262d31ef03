/- The reference's Ways (Floyd, Warshall), Both and Joined: who is joined with whom. -/
import Derived.Test.YtdpkdicciclobaaPgraph
import Derived.Test.YtdpkdicciclobaaGref
namespace Go.Proofs.Ytdpkdicciclobaa
open Go Go.Proofs.Ytdpkdicciclobaa.Sx
set_option linter.unusedVariables false
set_option linter.unusedSimpArgs false
/-! ### tables -/
def ent (g : List (List Int)) (x y : Nat) : Int := (g.getD x []).getD y 0
structure Sq (n : Nat) (g : List (List Int)) : Prop where
  l0 : g.length = n
  l1 : ∀ x, x < n → (g.getD x []).length = n
def setE (g : List (List Int)) (i k : Nat) (v : Int) : List (List Int) := g.set i ((g.getD i []).set k v)
theorem Sq.setE {n : Nat} {g : List (List Int)} (h : Sq n g) (i k : Nat) (v : Int) : Sq n (setE g i k v) := by
  refine ⟨by simp [Go.Proofs.Ytdpkdicciclobaa.setE, h.l0], fun x hx => ?_⟩
  unfold Go.Proofs.Ytdpkdicciclobaa.setE
  rw [getD_set']
  split
  · rename_i e; rw [List.length_set, ← e.1]; exact h.l1 x hx
  · exact h.l1 x hx
theorem ent_setE {n : Nat} {g : List (List Int)} (h : Sq n g) {i k : Nat} (hi : i < n) (hk : k < n) (v : Int) (x y : Nat) : ent (setE g i k v) x y = if x = i ∧ y = k then v else ent g x y := by
  unfold ent setE
  rw [getD_set']
  by_cases e : x = i
  · subst e
    rw [if_pos ⟨rfl, by rw [h.l0]; exact hi⟩, getD_set']
    by_cases e2 : y = k
    · subst e2; rw [if_pos ⟨rfl, by rw [h.l1 x hi]; exact hk⟩, if_pos ⟨rfl, rfl⟩]
    · rw [if_neg (fun z => e2 z.1), if_neg (fun z => e2 z.2)]
  · rw [if_neg (fun z => e z.1), if_neg (fun z => e z.1)]
/-! ### Floyd, Warshall -/
abbrev WO : Int := 1099511627776
def via (m : Nat) (D : Nat → Nat → Int) (x y : Nat) : Int := min (D x y) (D x m + D m y)
structure FW (n : Nat) (L : List Arc) (m : Nat) (D : Nat → Nat → Int) : Prop where
  lo : ∀ x y, x < n → y < n → 0 ≤ D x y ∧ D x y ≤ WO
  dg : ∀ x, x < n → D x x = 0
  fin : ∀ x y, x < n → y < n → D x y < WO → D x y ≤ ((2 ^ m : Nat) : Int)
  tr : ∀ a x y, a < m → x < n → y < n → D x a < WO → D a y < WO → D x y < WO
  arc : ∀ a, a ∈ L → D a.f.toNat a.t.toNat < WO
  snd : ∀ f : Int → Int, (∀ a, a ∈ L → f a.f = f a.t) → ∀ x y : Nat, x < n → y < n → D x y < WO → f x = f y
theorem via_fin {n m : Nat} {L : List Arc} {D : Nat → Nat → Int} (h : FW n L m D) (hm : m < n) (hn : n ≤ 12) {x y : Nat} (hx : x < n) (hy : y < n) : via m D x y < WO ↔ D x y < WO ∨ (D x m < WO ∧ D m y < WO) := by
  have a := h.lo x y hx hy
  have b := h.lo x m hx hm
  have c := h.lo m y hm hy
  have hp := Nat.pow_le_pow_right (n := 2) (by decide) (show m ≤ 12 by omega)
  rw [show (2 : Nat) ^ 12 = 4096 from rfl] at hp
  unfold via
  constructor
  · intro w
    by_cases q : D x y < WO
    · exact .inl q
    · exact .inr ⟨by omega, by omega⟩
  · rintro (w | ⟨w1, w2⟩)
    · omega
    · have := h.fin x m hx hm w1
      have := h.fin m y hm hy w2
      have : (WO : Int) = 1099511627776 := rfl
      omega
theorem FW.step {n m : Nat} {L : List Arc} {D : Nat → Nat → Int} (h : FW n L m D) (hm : m < n) (hn : n ≤ 12) (hL : ∀ a, a ∈ L → a.f.toNat < n ∧ a.t.toNat < n) : FW n L (m + 1) (via m D) := by
  refine ⟨fun x y hx hy => ?_, fun x hx => ?_, fun x y hx hy w => ?_, fun a x y ha hx hy w1 w2 => ?_, fun a ha => ?_, fun f hf x y hx hy w => ?_⟩
  · have a := h.lo x y hx hy
    have b := h.lo x m hx hm
    have c := h.lo m y hm hy
    unfold via; omega
  · have a := h.dg x hx
    have b := h.lo x m hx hm
    have c := h.lo m x hm hx
    unfold via; omega
  · have hp : (2 : Nat) ^ (m + 1) = 2 * 2 ^ m := by rw [Nat.pow_succ]; omega
    rw [hp]
    rcases (via_fin h hm hn hx hy).1 w with q | ⟨q1, q2⟩
    · have := h.fin x y hx hy q
      unfold via; omega
    · have := h.fin x m hx hm q1
      have := h.fin m y hm hy q2
      unfold via; omega
  · have han : a < n := by omega
    rw [via_fin h hm hn hx hy]
    rw [via_fin h hm hn hx han] at w1
    rw [via_fin h hm hn han hy] at w2
    by_cases e : a = m
    · subst e
      refine .inr ⟨?_, ?_⟩
      · rcases w1 with w | w
        · exact w
        · exact w.1
      · rcases w2 with w | w
        · exact w
        · exact w.2
    · have hlt : a < m := by omega
      rcases w1 with w1 | ⟨w1, w1'⟩ <;> rcases w2 with w2 | ⟨w2, w2'⟩
      · exact .inl (h.tr a x y hlt hx hy w1 w2)
      · exact .inr ⟨h.tr a x m hlt hx hm w1 w2, w2'⟩
      · exact .inr ⟨w1, h.tr a m y hlt hm hy w1' w2⟩
      · exact .inr ⟨w1, w2'⟩
  · obtain ⟨h1, h2⟩ := hL a ha
    exact (via_fin h hm hn h1 h2).2 (.inl (h.arc a ha))
  · rcases (via_fin h hm hn hx hy).1 w with q | ⟨q1, q2⟩
    · exact h.snd f hf x y hx hy q
    · exact (h.snd f hf x m hx hm q1).trans (h.snd f hf m y hm hy q2)
theorem repeatW_table : ∀ n : Fin 13, slices_Repeat_int_F [1099511627776] ((n.val : Nat) : Int) = some (List.replicate n.val 1099511627776) := by decide +kernel
theorem ways_init {g : Graph} (n0 : 0 ≤ g.n) (n1 : g.n ≤ 12) : ∃ d, forN (weirref_Ways_B1 g) g.n.toNat 0 (List.replicate g.n.toNat ([] : List Int)) = some d ∧ Sq g.n.toNat d ∧ ∀ x y, x < g.n.toNat → y < g.n.toNat → ent d x y = if x = y then 0 else WO := by
  obtain ⟨d, e, h1, h2⟩ := forN_inv (f := weirref_Ways_B1 g) (fun j d => d.length = g.n.toNat ∧ ∀ x, x < j → (d.getD x []) = (List.replicate g.n.toNat WO).set x 0) (n := g.n.toNat) (k := 0) (s := List.replicate g.n.toNat []) ⟨by simp, fun x h => absurd h (by omega)⟩ fun j d _ hj ⟨i1, i2⟩ => by
    unfold weirref_Ways_B1
    have hr := repeatW_table ⟨g.n.toNat, by omega⟩
    rw [show (((⟨g.n.toNat, by omega⟩ : Fin 13).val : Nat) : Int) = g.n by show ((g.n.toNat : Nat) : Int) = g.n; omega] at hr
    rw [hr, bind_some', ck_some (by omega)]
    dsimp only
    have e0 : ((d.set j (List.replicate g.n.toNat 1099511627776)).getD j []) = List.replicate g.n.toNat 1099511627776 := by rw [getD_set', if_pos ⟨rfl, by omega⟩]
    rw [e0, ck_some (by simp; omega)]
    refine ⟨_, rfl, by simpa using i1, fun x hx => ?_⟩
    rw [getD_set']
    by_cases q : x = j
    · rw [if_pos ⟨q, by simp; omega⟩, q]
    · rw [if_neg (fun z => q z.1), getD_set', if_neg (fun z => q z.1)]; exact i2 x (by omega)
  refine ⟨d, e, ⟨h1, fun x hx => by rw [h2 x (by omega)]; simp⟩, fun x y hx hy => ?_⟩
  unfold ent
  rw [h2 x (by omega), getD_set', getD_replicate']
  by_cases q : x = y
  · rw [if_pos ⟨q.symm, by simp; omega⟩, if_pos q]
  · rw [if_neg (fun z => q z.1.symm), if_pos hy, if_neg q]
theorem ways_arcs {g : Graph} (n0 : 0 ≤ g.n) (n1 : g.n ≤ 12) (hL : ∀ a, a ∈ g.as → (0 ≤ a.f ∧ a.f < g.n) ∧ 0 ≤ a.t ∧ a.t < g.n) {d : List (List Int)} (hd : Sq g.n.toNat d) (he : ∀ x y, x < g.n.toNat → y < g.n.toNat → ent d x y = if x = y then 0 else WO) :
    ∃ d', forN (weirref_Ways_B2 g) g.as.length 0 d = some d' ∧ Sq g.n.toNat d' ∧ FW g.n.toNat g.as 0 (ent d') := by
  obtain ⟨d', e, h1, h2, h3, h4⟩ := forN_inv (f := weirref_Ways_B2 g) (fun j d => Sq g.n.toNat d ∧ (∀ x y, x < g.n.toNat → y < g.n.toNat → (0 ≤ ent d x y ∧ ent d x y ≤ WO) ∧ (ent d x y < WO → ent d x y ≤ 1) ∧ (x = y → ent d x y = 0)) ∧ (∀ k, k < j → ent d (g.as.getD k El.d).f.toNat (g.as.getD k El.d).t.toNat < WO) ∧
      ∀ f : Int → Int, (∀ a, a ∈ g.as → f a.f = f a.t) → ∀ x y : Nat, x < g.n.toNat → y < g.n.toNat → ent d x y < WO → f x = f y) (n := g.as.length) (k := 0) (s := d)
      ⟨hd, fun x y hx hy => by rw [he x y hx hy]; by_cases q : x = y <;> simp [q], fun k h => absurd h (by omega), fun f _ x y hx hy w => by
        rw [he x y hx hy] at w
        by_cases q : x = y
        · rw [q]
        · rw [if_neg q] at w; exact absurd w (by omega)⟩ fun j d _ hj ⟨i1, i2, i3, i4⟩ => by
    have hj' : j < g.as.length := by omega
    have hm := mem_getD (d := (El.d : Arc)) hj'
    obtain ⟨⟨f0, f1⟩, t0, t1⟩ := hL _ hm
    have hf : (g.as.getD j El.d).f.toNat < g.n.toNat := by omega
    have ht : (g.as.getD j El.d).t.toNat < g.n.toNat := by omega
    unfold weirref_Ways_B2
    rw [ck_some ⟨f0, by rw [i1.l0]; omega⟩, ck_some ⟨t0, by rw [i1.l1 _ hf]; omega⟩]
    have ev : ∀ x y, ent (setE d (g.as.getD j El.d).f.toNat (g.as.getD j El.d).t.toNat (min (ent d (g.as.getD j El.d).f.toNat (g.as.getD j El.d).t.toNat) 1)) x y = if x = (g.as.getD j El.d).f.toNat ∧ y = (g.as.getD j El.d).t.toNat then min (ent d (g.as.getD j El.d).f.toNat (g.as.getD j El.d).t.toNat) 1 else ent d x y := ent_setE i1 hf ht _
    refine ⟨setE d (g.as.getD j El.d).f.toNat (g.as.getD j El.d).t.toNat (min (ent d (g.as.getD j El.d).f.toNat (g.as.getD j El.d).t.toNat) 1), rfl, i1.setE _ _ _, fun x y hx hy => ?_, fun k hk => ?_, fun f hff x y hx hy w => ?_⟩
    · have b := i2 x y hx hy
      rw [ev]
      by_cases q : x = (g.as.getD j El.d).f.toNat ∧ y = (g.as.getD j El.d).t.toNat
      · rw [if_pos q]
        rw [← q.1, ← q.2]
        exact ⟨⟨by omega, by omega⟩, fun _ => by omega, fun z => by have := b.2.2 z; omega⟩
      · rw [if_neg q]; exact b
    · rw [ev]
      by_cases q : (g.as.getD k El.d).f.toNat = (g.as.getD j El.d).f.toNat ∧ (g.as.getD k El.d).t.toNat = (g.as.getD j El.d).t.toNat
      · rw [if_pos q]
        have : (WO : Int) = 1099511627776 := rfl
        omega
      · rw [if_neg q]
        refine i3 k (Classical.byContradiction fun z => q ?_)
        rw [show k = j by omega]; exact ⟨rfl, rfl⟩
    · rw [ev] at w
      by_cases q : x = (g.as.getD j El.d).f.toNat ∧ y = (g.as.getD j El.d).t.toNat
      · have := hff _ hm
        rw [q.1, q.2, show (((g.as.getD j El.d).f.toNat : Nat) : Int) = (g.as.getD j El.d).f by omega, show (((g.as.getD j El.d).t.toNat : Nat) : Int) = (g.as.getD j El.d).t by omega]
        exact this
      · rw [if_neg q] at w; exact i4 f hff x y hx hy w
  refine ⟨d', e, h1, fun x y hx hy => (h2 x y hx hy).1, fun x hx => (h2 x x hx hx).2.2 rfl, fun x y hx hy w => by simpa using (h2 x y hx hy).2.1 w, fun a x y ha => absurd ha (by omega), fun a ha => ?_, h4⟩
  obtain ⟨k, hk, rfl⟩ := getD_of_mem (d := (El.d : Arc)) ha
  exact h3 k (by omega)
theorem ways_row {n m i : Nat} {L : List Arc} {D : Nat → Nat → Int} (h : FW n L m D) (hm : m < n) (hi : i < n) {d : List (List Int)} (hd : Sq n d) (he : ∀ x y, x < n → y < n → ent d x y = if x < i then via m D x y else D x y) :
    ∃ d', forN (weirref_Ways_B5 m i) d.length 0 d = some d' ∧ Sq n d' ∧ ∀ x y, x < n → y < n → ent d' x y = if x < i + 1 then via m D x y else D x y := by
  have pi : ∀ x, x < n → via m D x m = D x m := fun x hx => by have := h.dg m hm; have := h.lo x m hx hm; unfold via; omega
  have pm : ∀ y, y < n → via m D m y = D m y := fun y hy => by have := h.dg m hm; have := h.lo m y hm hy; unfold via; omega
  obtain ⟨d', e, h1, h2⟩ := forN_inv (f := weirref_Ways_B5 m i) (fun j d => Sq n d ∧ ∀ x y, x < n → y < n → ent d x y = if x < i ∨ (x = i ∧ y < j) then via m D x y else D x y) (n := d.length) (k := 0) (s := d)
      ⟨hd, fun x y hx hy => by rw [he x y hx hy]; simp⟩ fun j d0 _ hj ⟨i1, i2⟩ => by
    have hj' : j < n := by have := hd.l0; omega
    have l0 := i1.l0
    have l1 := i1.l1 i hi
    have l2 := i1.l1 m hm
    unfold weirref_Ways_B5
    have e1 : ent d0 i j = D i j := by rw [i2 i j hi hj', if_neg (by omega)]
    have e2 : ent d0 i m = D i m := by
      rw [i2 i m hi hm]
      split
      · exact pi i hi
      · rfl
    have e3 : ent d0 m j = D m j := by
      rw [i2 m j hm hj']
      split
      · exact pm j hj'
      · rfl
    have b1 := h.lo i m hi hm
    have b2 := h.lo m j hm hj'
    have bW : (WO : Int) = 1099511627776 := rfl
    rw [ck_some (by omega), ck_some (by omega), ck_some (by omega), ck_some (by omega), ck_some (by omega)]
    rw [show (d0.getD i []).getD m (0 : Int) = D i m from e2, show (d0.getD m []).getD j (0 : Int) = D m j from e3, show (d0.getD i []).getD j (0 : Int) = D i j from e1]
    rw [ck_some (by unfold InI; omega)]
    refine ⟨setE d0 i j (via m D i j), rfl, i1.setE _ _ _, fun x y hx hy => ?_⟩
    rw [ent_setE i1 hi hj', i2 x y hx hy]
    by_cases q : x = i ∧ y = j
    · obtain ⟨rfl, rfl⟩ := q
      rw [if_pos ⟨rfl, rfl⟩, if_pos (by omega)]
    · rw [if_neg q]
      by_cases q2 : x < i ∨ (x = i ∧ y < j)
      · rw [if_pos q2, if_pos (by omega)]
      · rw [if_neg q2, if_neg (by omega)]
  refine ⟨d', e, h1, fun x y hx hy => ?_⟩
  rw [h2 x y hx hy]
  have := hd.l0
  by_cases q : x < i + 1
  · rw [if_pos q, if_pos (by omega)]
  · rw [if_neg q, if_neg (by omega)]
theorem ways_round {n m : Nat} {L : List Arc} {d : List (List Int)} (hd : Sq n d) (h : FW n L m (ent d)) (hm : m < n) (hn : n ≤ 12) (hL : ∀ a, a ∈ L → a.f.toNat < n ∧ a.t.toNat < n) :
    ∃ d', weirref_Ways_B3 m d = some d' ∧ Sq n d' ∧ FW n L (m + 1) (ent d') := by
  obtain ⟨d', e, h1, h2⟩ := forN_inv (f := weirref_Ways_B4 m) (fun i d1 => Sq n d1 ∧ ∀ x y, x < n → y < n → ent d1 x y = if x < i then via m (ent d) x y else ent d x y) (n := d.length) (k := 0) (s := d)
      ⟨hd, fun x y hx hy => by simp⟩ fun i d1 _ hi ⟨i1, i2⟩ => by
    obtain ⟨d2, e2, k1, k2⟩ := ways_row h hm (by have := hd.l0; omega) i1 i2
    exact ⟨d2, by unfold weirref_Ways_B4; rw [e2]; rfl, k1, k2⟩
  refine ⟨d', by unfold weirref_Ways_B3; rw [e]; rfl, h1, ?_⟩
  have hs := h.step hm hn hL
  have hl := hd.l0
  have ev : ∀ x y, x < n → y < n → ent d' x y = via m (ent d) x y := fun x y hx hy => by rw [h2 x y hx hy, if_pos (by omega)]
  refine ⟨fun x y hx hy => by rw [ev x y hx hy]; exact hs.lo x y hx hy, fun x hx => by rw [ev x x hx hx]; exact hs.dg x hx, fun x y hx hy w => by rw [ev x y hx hy] at w ⊢; exact hs.fin x y hx hy w, fun a x y ha hx hy w1 w2 => ?_, fun a ha => ?_, fun f hf x y hx hy w => ?_⟩
  · rw [ev x a hx (by omega)] at w1
    rw [ev a y (by omega) hy] at w2
    rw [ev x y hx hy]
    exact hs.tr a x y ha hx hy w1 w2
  · obtain ⟨q1, q2⟩ := hL a ha
    rw [ev _ _ q1 q2]; exact hs.arc a ha
  · rw [ev x y hx hy] at w; exact hs.snd f hf x y hx hy w
theorem ways_ok {g : Graph} (n0 : 0 ≤ g.n) (n1 : g.n ≤ 12) (hL : ∀ a, a ∈ g.as → (0 ≤ a.f ∧ a.f < g.n) ∧ 0 ≤ a.t ∧ a.t < g.n) : ∃ d, weirref_Ways_F g = some d ∧ Sq g.n.toNat d ∧ FW g.n.toNat g.as g.n.toNat (ent d) := by
  obtain ⟨d0, e0, s0, a0⟩ := ways_init n0 n1
  obtain ⟨d1, e1, s1, a1⟩ := ways_arcs n0 n1 hL s0 a0
  obtain ⟨d2, e2, s2, a2⟩ := forN_inv (f := weirref_Ways_B3) (fun m d => Sq g.n.toNat d ∧ FW g.n.toNat g.as m (ent d)) (n := g.n.toNat) (k := 0) (s := d1) ⟨s1, a1⟩ fun m d _ hm ⟨i1, i2⟩ =>
    ways_round i1 i2 (by omega) (by omega) fun a ha => by obtain ⟨⟨_, _⟩, _, _⟩ := hL a ha; exact ⟨by omega, by omega⟩
  refine ⟨d2, ?_, s2, by rw [Nat.zero_add] at a2; exact a2⟩
  unfold weirref_Ways_F
  rw [ck_some ⟨n0, by omega⟩, e0, bind_some', e1, bind_some', s1.l0, e2]
  rfl
/-! ### each arc twice -/
def turnB (a : Arc) : Arc := ⟨a.t, a.f, a.c⟩
theorem both_ok {g : Graph} (hl : g.as.length ≤ 1000) : weirref_Both_F g = some ⟨g.n, g.as ++ g.as.map turnB⟩ := by
  unfold weirref_Both_F
  rw [show slices_Clone_Arc_F g.as = some g.as by unfold slices_Clone_Arc_F; rw [ck_some (by omega)]; rfl, bind_some']
  obtain ⟨l, e, h⟩ := forN_inv (f := weirref_Both_B1 g) (fun j l => l = g.as ++ (g.as.take j).map turnB) (n := g.as.length) (k := 0) (s := g.as) (by simp) fun j l _ hj i1 => by
    have hj' : j < g.as.length := by omega
    unfold weirref_Both_B1
    rw [ck_some (by rw [i1]; simp; omega)]
    refine ⟨_, rfl, ?_⟩
    rw [i1, take_succ_getD hj', List.map_append, List.append_assoc]
    rfl
  rw [e, bind_some', h, Nat.zero_add, List.take_of_length_le (Nat.le_refl _)]
/-! ### who is joined -/
/-- of each node the first one with which it is joined -/
structure JoinedD (g : Graph) (j : List Int) : Prop where
  len : j.length = g.n.toNat
  lo : ∀ x, x < g.n.toNat → 0 ≤ j.getD x 0 ∧ j.getD x 0 < g.n
  arc : ∀ a, a ∈ g.as → j.getD a.f.toNat 0 = j.getD a.t.toNat 0
  snd : ∀ f : Int → Int, (∀ a, a ∈ g.as → f a.f = f a.t) → ∀ x : Nat, x < g.n.toNat → f (j.getD x 0) = f x
theorem index_ok {l : List Int} {i : Nat} (hi : i < l.length) (h : l.getD i 0 < WO) : ∃ j : Nat, slices_IndexFunc_int_weirref_Joined_c1_F l = some (j : Int) ∧ j < l.length ∧ l.getD j 0 < WO ∧ ∀ y, y < j → ¬ l.getD y 0 < WO := by
  unfold slices_IndexFunc_int_weirref_Joined_c1_F
  obtain ⟨q, e, h1⟩ := forC_or (f := slices_IndexFunc_int_weirref_Joined_c1_B1 l) (fun j _ => ∀ y, y < j → ¬ l.getD y 0 < WO) (fun q => ∃ j : Nat, q = .ret (j : Int) ∧ j < l.length ∧ l.getD j 0 < WO ∧ ∀ y, y < j → ¬ l.getD y 0 < WO) (n := l.length) (k := 0) (s := ()) (fun y hy => absurd hy (by omega)) (fun j s _ hj hI => by
    unfold slices_IndexFunc_int_weirref_Joined_c1_B1 weirref_Joined_c1_F
    rw [bind_some']
    by_cases c : l.getD j 0 < 1099511627776
    · rw [if_pos (decide_eq_true c)]
      exact .inr (.inr ⟨_, rfl, j, rfl, by omega, c, hI⟩)
    · rw [if_neg (by simpa using c)]
      refine .inl ⟨(), rfl, fun y hy => ?_⟩
      by_cases q : y = j
      · subst q; exact c
      · exact hI y (by omega)) (fun s hI => absurd h (hI i (by omega)))
  obtain ⟨j, rfl, h2, h3, h4⟩ := h1
  rw [e, bind_some']
  exact ⟨j, rfl, h2, h3, h4⟩
theorem joined_ok {g : Graph} (n0 : 0 ≤ g.n) (n1 : g.n ≤ 12) (hl : g.as.length ≤ 1000) (hL : ∀ a, a ∈ g.as → (0 ≤ a.f ∧ a.f < g.n) ∧ 0 ≤ a.t ∧ a.t < g.n) : ∃ j, weirref_Joined_F g = some j ∧ JoinedD g j := by
  have hB : ∀ a, a ∈ g.as ++ g.as.map turnB → (0 ≤ a.f ∧ a.f < g.n) ∧ 0 ≤ a.t ∧ a.t < g.n := fun a ha => by
    rcases List.mem_append.1 ha with h | h
    · exact hL a h
    · obtain ⟨b, hb, rfl⟩ := List.mem_map.1 h
      exact ⟨(hL b hb).2, (hL b hb).1⟩
  obtain ⟨d, e, hs, hf⟩ := ways_ok (g := ⟨g.n, g.as ++ g.as.map turnB⟩) n0 n1 hB
  dsimp only at hs hf
  have hW : (WO : Int) = 1099511627776 := rfl
  unfold weirref_Joined_F
  rw [both_ok hl, bind_some', e, bind_some']
  obtain ⟨j, e1, h1, h2⟩ := forN_inv (f := weirref_Joined_B1 d) (fun k l => l.length = k ∧ ∀ x, x < k → ∃ y : Nat, l.getD x 0 = (y : Int) ∧ y < g.n.toNat ∧ ent d x y < WO ∧ ∀ z, z < y → ¬ ent d x z < WO) (n := d.length) (k := 0) (s := []) ⟨rfl, fun x h => absurd h (by omega)⟩ fun k l _ hk ⟨i1, i2⟩ => by
    have hk' : k < g.n.toNat := by have := hs.l0; omega
    unfold weirref_Joined_B1
    have hll := hs.l1 k hk'
    obtain ⟨y, ey, y1, y2, y3⟩ := index_ok (l := d.getD k []) (i := k) (by omega) (by have := hf.dg k hk'; unfold ent at this; omega)
    rw [ey, bind_some', ck_some (by omega)]
    refine ⟨_, rfl, by simp [i1], fun x hx => ?_⟩
    by_cases q : x = k
    · subst q
      refine ⟨y, ?_, by omega, y2, y3⟩
      rw [List.getD_eq_getElem?_getD, List.getElem?_append_right (by omega), i1]; simp
    · obtain ⟨z, z1, z2⟩ := i2 x (by omega)
      refine ⟨z, ?_, z2⟩
      rw [← z1, List.getD_eq_getElem?_getD, List.getD_eq_getElem?_getD, List.getElem?_append_left (by omega)]
  rw [Nat.zero_add] at h1 h2
  rw [hs.l0] at h1 h2
  rw [e1]
  refine ⟨j, rfl, h1, fun x hx => ?_, fun a ha => ?_, fun f hff x hx => ?_⟩
  · obtain ⟨y, ey, y1, _⟩ := h2 x hx
    rw [ey]; omega
  · obtain ⟨⟨f0, f1⟩, t0, t1⟩ := hL a ha
    have hfn : a.f.toNat < g.n.toNat := by omega
    have htn : a.t.toNat < g.n.toNat := by omega
    obtain ⟨y, ey, y1, y2, y3⟩ := h2 a.f.toNat hfn
    obtain ⟨z, ez, z1, z2, z3⟩ := h2 a.t.toNat htn
    have A1 : ent d a.f.toNat a.t.toNat < WO := hf.arc a (List.mem_append_left _ ha)
    have A2 : ent d a.t.toNat a.f.toNat < WO := hf.arc (turnB a) (List.mem_append_right _ (List.mem_map.2 ⟨a, ha, rfl⟩))
    have c1 := hf.tr a.t.toNat a.f.toNat z htn hfn z1 A1 z2
    have c2 := hf.tr a.f.toNat a.t.toNat y hfn htn y1 A2 y2
    rw [ey, ez]
    by_cases q : y < z
    · exact absurd c2 (z3 y q)
    · by_cases q2 : z < y
      · exact absurd c1 (y3 z q2)
      · rw [show y = z by omega]
  · obtain ⟨y, ey, y1, y2, _⟩ := h2 x hx
    rw [ey]
    refine (hf.snd f (fun a ha => ?_) x y hx y1 y2).symm
    rcases List.mem_append.1 ha with h | h
    · exact hff a h
    · obtain ⟨b, hb, rfl⟩ := List.mem_map.1 h
      exact (hff b hb).symm
end Go.Proofs.Ytdpkdicciclobaa
