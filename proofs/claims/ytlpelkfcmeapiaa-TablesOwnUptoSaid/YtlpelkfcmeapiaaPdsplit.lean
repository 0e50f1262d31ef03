/- Package double: what Split makes is the table again. -/
import Derived.Test.YtlpelkfcmeapiaaPdoub
namespace Go.Proofs.Ytlpelkfcmeapiaa
open Go Go.Proofs.Ytlpelkfcmeapiaa.Sx
set_option linter.unusedVariables false
set_option linter.unusedSimpArgs false
def sumP (f : Piece → Int) (l : List Piece) : Int := tot (fun j => f (l.getD j El.d)) l.length
theorem sumP_nil (f : Piece → Int) : sumP f [] = 0 := rfl
theorem sumP_snoc (f : Piece → Int) (l : List Piece) (p : Piece) : sumP f (l ++ [p]) = sumP f l + f p := by
  unfold sumP
  rw [List.length_append, List.length_singleton]
  have e : tot (fun j => f ((l ++ [p]).getD j El.d)) (l.length + 1) = tot (fun j => f ((l ++ [p]).getD j El.d)) l.length + f ((l ++ [p]).getD l.length El.d) := rfl
  rw [e]
  congr 1
  · exact tot_congr fun j hj => by rw [List.getD_eq_getElem?_getD, List.getElem?_append_left hj, ← List.getD_eq_getElem?_getD]
  · congr 1; simp [List.getD_eq_getElem?_getD]
/-- a way to take one of each line -/
structure Pm (n : Nat) (L : List Int) : Prop where
  len : L.length = n
  nd : L.Nodup
  v : ∀ i, i < n → 0 ≤ L.getD i 0 ∧ L.getD i 0 < n
theorem Wy.pm {n : Nat} {t : List (List Int)} {L : List Int} (h : Wy n t n L) : Pm n L := ⟨h.len, h.nd, fun i hi => ⟨(h.v i hi).1, (h.v i hi).2.1⟩⟩
theorem Pm.inj {n : Nat} {L : List Int} (h : Pm n L) : InjN n fun i => (L.getD i 0).toNat := ⟨fun i hi => by have := h.v i hi; omega, fun i j hi hj e => by
  have h1 := h.v i hi
  have h2 := h.v j hj
  have hl := h.len
  have e2 : L.getD i 0 = L.getD j 0 := by omega
  rw [List.getD_eq_getElem?_getD, List.getD_eq_getElem?_getD, List.getElem?_eq_getElem (by omega : i < L.length), List.getElem?_eq_getElem (by omega : j < L.length)] at e2
  have e3 : L[i]'(by omega) = L[j]'(by omega) := e2
  have hp := List.pairwise_iff_getElem.1 h.nd
  rcases Nat.lt_trichotomy i j with q | q | q
  · exact absurd e3 (hp i j (by omega) (by omega) q)
  · exact q
  · exact absurd e3.symm (hp j i (by omega) (by omega) q)⟩
def termP (i k : Nat) (p : Piece) : Int := if p.arcs.getD i 0 = (k : Int) then p.amount else 0
theorem Mt_set {g : List (List Int)} {j k i l : Nat} {v : Int} (hj : j < g.length) (hk : k < (g.getD j []).length) : Mt (g.set j ((g.getD j []).set k v)) i l = if i = j ∧ l = k then v else Mt g i l := by
  unfold Mt
  rw [getD_set']
  by_cases c : i = j
  · rw [if_pos ⟨c, hj⟩, getD_set']
    subst c
    by_cases d : l = k
    · rw [if_pos ⟨d, hk⟩, if_pos ⟨rfl, d⟩]
    · rw [if_neg fun z => d z.1, if_neg fun z => d z.2]
  · rw [if_neg fun z => c z.1, if_neg fun z => c z.1]
theorem row_set {g : List (List Int)} {j k i : Nat} {v : Int} : ((g.set j ((g.getD j []).set k v)).getD i []).length = (g.getD i []).length := grid_set_len i
structure Sp (n : Nat) (t : List (List Int)) (s : Int) (x : Int) (g : List (List Int)) (l : List Piece) : Prop where
  d : Dbl n g x
  x0 : 0 ≤ x
  b : ∀ i k, i < n → k < n → Mt g i k ≤ 1000
  p : ∀ q, q ∈ l → 1 ≤ q.amount ∧ q.amount ≤ s ∧ Pm n q.arcs
  tb : ∀ i k, i < n → k < n → Mt t i k = Mt g i k + sumP (termP i k) l
  sm : x + sumP (fun q => q.amount) l = s
  m : (l.length : Int) ≤ s - x
  zz : ∀ k, k < l.length → ∃ i, i < n ∧ Mt g i ((l.getD k El.d).arcs.getD i 0).toNat = 0 ∧ ∀ j, k < j → j < l.length → (l.getD j El.d).arcs.getD i 0 ≠ (l.getD k El.d).arcs.getD i 0
theorem one_le {f : Nat → Int} {n k : Nat} (h : ∀ i, i < n → 0 ≤ f i) (hk : k < n) : f k ≤ tot f n := by
  have := tot_le (f := fun i => if i = k then f k else 0) (g := f) (n := n) fun i hi => by
    by_cases c : i = k
    · subst c; rw [if_pos rfl]; exact Int.le_refl _
    · rw [if_neg c]; exact h i hi
  rw [tot_single (f := fun i => if i = k then f k else 0) hk (fun i _ hne => if_neg hne), if_pos rfl] at this
  exact this
theorem split_step {n : Nat} (hn6 : n ≤ 6) {t : List (List Int)} {s x : Int} {g : List (List Int)} {l : List Piece} (hs : s ≤ 6000) (hs0 : n = 0 → s = 0) (h : Sp n t s x g l) (hx : 0 < x) :
    ∃ x' g' l', double_Split_B2 (x, g, l) = some (.go (x', g', l')) ∧ Sp n t s x' g' l' ∧ x' < x := by
  have hm := h.m
  have hn : 0 < n := by
    refine Nat.pos_of_ne_zero fun z => ?_
    have := hs0 z
    omega
  have hd := h.d
  have gl := hd.len
  obtain ⟨r, er, hr⟩ := first_has hn hn6 hd hx
  have hrl := hr.len
  have hpm := hr.pm
  have hin := hpm.inj
  -- how much goes
  obtain ⟨y, ey, hy0, hy1, hy2, hy3⟩ : ∃ y, forN (double_Split_B3 g r) r.length 0 x = some y ∧ 1 ≤ y ∧ y ≤ x ∧ (∀ i, i < n → y ≤ Mt g i (r.getD i 0).toNat) ∧ (y = x ∨ ∃ i, i < n ∧ y = Mt g i (r.getD i 0).toNat) := by
    obtain ⟨y, e, i1, i2, i3, i4⟩ := forN_inv (f := double_Split_B3 g r) (fun j y => 1 ≤ y ∧ y ≤ x ∧ (∀ i, i < j → y ≤ Mt g i (r.getD i 0).toNat) ∧ (y = x ∨ ∃ i, i < n ∧ y = Mt g i (r.getD i 0).toNat)) (n := r.length) (k := 0) (s := x) ⟨by omega, Int.le_refl _, fun i hi => absurd hi (by omega), .inl rfl⟩ fun j y _ hj ⟨i1, i2, i3, i4⟩ => by
      have hj' : j < n := by omega
      have hv := hr.v j hj'
      have hrw := hd.row j hj'
      unfold double_Split_B3
      rw [ck_some (by omega), ck_some (by omega)]
      have e0 : (g.getD j []).getD (r.getD j 0).toNat 0 = Mt g j (r.getD j 0).toNat := rfl
      rw [e0]
      refine ⟨_, rfl, by omega, by omega, fun i hi => ?_, ?_⟩
      · by_cases z : i = j
        · subst z; omega
        · have := i3 i (by omega); omega
      · rcases Int.le_total y (Mt g j (r.getD j 0).toNat) with q | q
        · rw [Int.min_eq_left q]; exact i4
        · rw [Int.min_eq_right q]; exact .inr ⟨j, hj', rfl⟩
    rw [Nat.zero_add, hrl] at i3
    exact ⟨y, e, i1, i2, i3, i4⟩
  -- somewhere it is all
  obtain ⟨i9, h9, e9⟩ : ∃ i, i < n ∧ Mt g i (r.getD i 0).toNat = y := by
    rcases hy3 with q | ⟨i, hi, q⟩
    · have h1 := hy2 0 hn
      have hv := hr.v 0 hn
      have h2 := one_le (f := Mt g 0) (n := n) (fun k hk => hd.b 0 k hn hk) (show (r.getD 0 0).toNat < n by omega)
      rw [hd.rs 0 hn] at h2
      exact ⟨0, hn, by omega⟩
    · exact ⟨i, hi, q.symm⟩
  -- the rest of the table
  obtain ⟨g', eg, k1, k2, k3⟩ : ∃ g', forN (double_Split_B4 r y) r.length 0 g = some g' ∧ g'.length = n ∧ (∀ i, i < n → (g'.getD i []).length = n) ∧ ∀ i k, i < n → k < n → Mt g' i k = Mt g i k - if r.getD i 0 = (k : Int) then y else 0 := by
    obtain ⟨g', e, i1, i2, i3⟩ := forN_inv (f := double_Split_B4 r y) (fun j g' => g'.length = n ∧ (∀ i, i < n → (g'.getD i []).length = n) ∧ ∀ i k, i < n → k < n → Mt g' i k = Mt g i k - if i < j ∧ r.getD i 0 = (k : Int) then y else 0) (n := r.length) (k := 0) (s := g) ⟨gl, hd.row, fun i k _ _ => by rw [if_neg (by omega)]; omega⟩ fun j g' _ hj ⟨i1, i2, i3⟩ => by
      have hj' : j < n := by omega
      have hv := hr.v j hj'
      have hrw := i2 j hj'
      have hval := i3 j (r.getD j 0).toNat hj' (by omega)
      rw [if_neg (by omega)] at hval
      have hb1 := h.b j (r.getD j 0).toNat hj' (by omega)
      have hm1 := hy2 j hj'
      unfold double_Split_B4
      have e0 : (g'.getD j []).getD (r.getD j 0).toNat 0 = Mt g' j (r.getD j 0).toNat := rfl
      rw [ck_some (by omega), ck_some (by omega), e0, ck_some (inI_small (by omega) (by omega))]
      refine ⟨_, rfl, by simp [i1], fun i hi => by rw [row_set]; exact i2 i hi, fun i k hi hk => ?_⟩
      rw [Mt_set (by omega) (by omega), i3 i k hi hk]
      by_cases z : i = j ∧ k = (r.getD j 0).toNat
      · obtain ⟨rfl, rfl⟩ := z
        rw [if_pos ⟨rfl, rfl⟩, if_pos (by omega)]
        omega
      · rw [if_neg z]
        by_cases w : i < j ∧ r.getD i 0 = (k : Int)
        · rw [if_pos w, if_pos (by omega)]
        · rw [if_neg w, if_neg fun u => ?_]
          by_cases v : i = j
          · subst v; exact z ⟨rfl, by omega⟩
          · exact w ⟨by omega, u.2⟩
    refine ⟨g', e, i1, i2, fun i k hi hk => ?_⟩
    rw [i3 i k hi hk, Nat.zero_add, hrl]
    by_cases w : r.getD i 0 = (k : Int)
    · rw [if_pos ⟨hi, w⟩, if_pos w]
    · rw [if_neg fun u => w u.2, if_neg w]
  have hsum := h.sm
  refine ⟨x - y, g', l ++ [⟨y, r⟩], ?_, ⟨⟨k1, k2, fun i k hi hk => ?_, fun i hi => ?_, fun k hk => ?_⟩, by omega, fun i k hi hk => ?_, fun q hq => ?_, fun i k hi hk => ?_, ?_, ?_, fun k hk => ?_⟩, by omega⟩
  · unfold double_Split_B2
    dsimp only
    rw [if_pos hx, er, bind_some', ey, bind_some', eg, bind_some', ck_some (inI_small (by omega) (by omega)), ck_some (by omega)]
  · rw [k3 i k hi hk]
    by_cases w : r.getD i 0 = (k : Int)
    · have := hy2 i hi
      rw [w, Int.toNat_natCast] at this
      rw [if_pos w]; omega
    · have := hd.b i k hi hk
      rw [if_neg w]; omega
  · have hv := hpm.v i hi
    rw [tot_congr (f := Mt g' i) (g := fun k => Mt g i k - if r.getD i 0 = (k : Int) then y else 0) fun k hk => k3 i k hi hk, tot_sub (Mt g i) (fun k => if r.getD i 0 = (k : Int) then y else 0), hd.rs i hi,
      tot_single (f := fun k => if r.getD i 0 = (k : Int) then y else 0) (k := (r.getD i 0).toNat) (by omega) (fun k _ hne => if_neg (by omega)), if_pos (by omega)]
  · obtain ⟨i0, hi0, e0⟩ := hin.onto hk
    have hv0 := hpm.v i0 hi0
    rw [tot_congr (f := fun i => Mt g' i k) (g := fun i => Mt g i k - if r.getD i 0 = (k : Int) then y else 0) fun i hi => k3 i k hi hk, tot_sub (fun i => Mt g i k) (fun i => if r.getD i 0 = (k : Int) then y else 0), hd.cs k hk,
      tot_single (f := fun i => if r.getD i 0 = (k : Int) then y else 0) hi0 (fun i hi hne => if_neg fun z => hne (hin.inj i i0 hi hi0 (by omega))), if_pos (by omega)]
  · rw [k3 i k hi hk]
    have := h.b i k hi hk
    split <;> omega
  · rcases List.mem_append.1 hq with hq | hq
    · exact h.p q hq
    · obtain rfl := List.mem_singleton.1 hq
      have := h.m
      have : 0 ≤ (l.length : Int) := by omega
      exact ⟨hy0, by dsimp only; omega, hpm⟩
  · rw [sumP_snoc, h.tb i k hi hk, k3 i k hi hk]
    have : termP i k ⟨y, r⟩ = if r.getD i 0 = (k : Int) then y else 0 := rfl
    rw [this]; omega
  · rw [sumP_snoc]
    dsimp only
    omega
  · simp only [List.length_append, List.length_singleton]
    omega
  · simp only [List.length_append, List.length_singleton] at hk ⊢
    have old : ∀ j, j < l.length → (l ++ [(⟨y, r⟩ : Piece)]).getD j El.d = l.getD j El.d := fun j hj => by rw [List.getD_eq_getElem?_getD, List.getElem?_append_left hj, ← List.getD_eq_getElem?_getD]
    have new : (l ++ [(⟨y, r⟩ : Piece)]).getD l.length El.d = ⟨y, r⟩ := by simp [List.getD_eq_getElem?_getD]
    by_cases c : k = l.length
    · subst c
      have hv := hr.v i9 h9
      refine ⟨i9, h9, ?_, fun j h1 h2 => absurd h1 (by omega)⟩
      rw [new]
      show Mt g' i9 (r.getD i9 0).toNat = 0
      rw [k3 i9 _ h9 (by omega), if_pos (by omega), e9]
      omega
    · have hk' : k < l.length := by omega
      obtain ⟨i, hi, h1, h2⟩ := h.zz k hk'
      have hq := (h.p _ (mem_getD (d := El.d) hk')).2.2.v i hi
      have hv := hr.v i hi
      rw [old k hk']
      refine ⟨i, hi, ?_, fun j hj1 hj2 => ?_⟩
      · rw [k3 i _ hi (by omega), h1, if_neg fun w => ?_]
        · rfl
        · have := hv.2.2
          rw [w, Int.toNat_natCast] at this
          omega
      · by_cases d : j = l.length
        · subst d
          rw [new]
          intro w
          have w' : r.getD i 0 = (l.getD k El.d).arcs.getD i 0 := w
          have := hv.2.2
          rw [w'] at this
          omega
        · rw [old j (by omega)]; exact h2 j hj1 (by omega)
theorem split_ok {t : List (List Int)} {s : Int} (h6 : t.length ≤ 6) (hD : Dbl t.length t s) (s0 : 0 ≤ s) (s1 : s ≤ 6000) (sz : t.length = 0 → s = 0) (hb : ∀ i k, i < t.length → k < t.length → Mt t i k ≤ 1000) (hc : double_Check_F t = some (s, 0)) :
    ∃ l, double_Split_F t = some (l, 0) ∧ (∀ q, q ∈ l → 1 ≤ q.amount ∧ q.amount ≤ s ∧ Pm t.length q.arcs) ∧ (∀ i k, i < t.length → k < t.length → Mt t i k = sumP (termP i k) l) ∧ sumP (fun q => q.amount) l = s ∧ (l.length : Int) ≤ s ∧ (∀ k, k < l.length → ∃ i, i < t.length ∧ ∀ j, k < j → j < l.length → (l.getD j El.d).arcs.getD i 0 ≠ (l.getD k El.d).arcs.getD i 0) := by
  unfold double_Split_F
  rw [hc, bind_some']
  dsimp only
  rw [if_neg (by decide), ck_some (by omega)]
  obtain ⟨g, eg, g1, g2⟩ := forN_inv (f := double_Split_B1 t) (fun j g => g.length = t.length ∧ ∀ i, i < j → g.getD i [] = t.getD i []) (n := t.length) (k := 0) (s := List.replicate (((t.length : Nat) : Int).toNat) ([] : List Int)) ⟨by simp, fun i hi => absurd hi (by omega)⟩ fun j g _ hj ⟨i1, i2⟩ => by
    have hr := hD.row j (by omega)
    unfold double_Split_B1
    rw [cloneI_eq (by omega), bind_some', ck_some (by omega)]
    refine ⟨_, rfl, by simp [i1], fun i hi => ?_⟩
    rw [getD_set']
    by_cases z : i = j
    · rw [if_pos ⟨z, by omega⟩, z]
    · rw [if_neg fun w => z w.1]; exact i2 i (by omega)
  have hg : g = t := eq_of_getD (d := []) g1 fun i hi => g2 i (by omega)
  subst hg
  rw [eg, bind_some']
  obtain ⟨q, e, hq⟩ := loopC_or (f := double_Split_B2) (fun σ => Sp g.length g s σ.1 σ.2.1 σ.2.2) (fun q => ∃ σ, q = .go σ ∧ Sp g.length g s σ.1 σ.2.1 σ.2.2 ∧ σ.1 = 0) (fun σ => σ.1.toNat) (fun σ hS => by
    obtain ⟨x, g', l⟩ := σ
    dsimp only at hS
    by_cases c : 0 < x
    · obtain ⟨x', g'', l', e, h1, h2⟩ := split_step h6 s1 sz hS c
      have := h1.x0
      exact .inl ⟨_, e, h1, by dsimp only; omega⟩
    · refine .inr (.inl ⟨(x, g', l), ?_, _, rfl, hS, ?_⟩)
      · unfold double_Split_B2
        dsimp only
        rw [if_neg c]
      · have := hS.x0
        dsimp only
        omega) (n := 1000000) (s := (s, g, [])) ⟨hD, s0, hb, fun q hq => (by cases hq), fun i k _ _ => (by rw [sumP_nil]; exact (Int.add_zero _).symm), Int.add_zero _, by simp, fun k hk => absurd hk (by simp)⟩ (by dsimp only; omega)
  obtain ⟨⟨x, g', l⟩, rfl, hS, hx⟩ := hq
  dsimp only at hS hx
  subst hx
  rw [e, bind_some']
  refine ⟨l, rfl, hS.p, fun i k hi hk => ?_, by have := hS.sm; omega, by have := hS.m; omega, fun k hk => let ⟨i, h1, _, h2⟩ := hS.zz k hk; ⟨i, h1, h2⟩⟩
  have h1 := hS.tb i k hi hk
  have h2 := hS.d.b i k hi hk
  have h3 : Mt g' i k = 0 := Classical.byContradiction fun z => by
    have := tot_ltB (f := fun _ => 0) (g := Mt g' i) (n := g.length) (fun k hk => hS.d.b i k hi hk) hk (by omega)
    rw [hS.d.rs i hi, tot_const] at this
    omega
  omega
theorem split_bad {t : List (List Int)} {e : Int} (he : e ≠ 0) (hc : double_Check_F t = some (0, e)) : double_Split_F t = some ([], e) := by
  unfold double_Split_F
  rw [hc, bind_some']
  dsimp only
  rw [if_pos he]
end Go.Proofs.Ytlpelkfcmeapiaa
