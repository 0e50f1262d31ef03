import Derived.Test.YtkfmphlnpmemdaaQPA
import Derived.Test.YtkfmphlnpmemdaaQDA
set_option linter.unusedVariables false
set_option linter.unusedSimpArgs false
namespace Go.Proofs.Ytkfmphlnpmemdaa
open Go Go.Proofs.Ytkfmphlnpmemdaa.Sx
theorem mget_mset (es : List (Int × Int)) (k v z : Int) : mget (mset es k v) z = if z = k then some v else mget es z := by
  induction es with
  | nil => simp [mset, mget]
  | cons p es ih =>
    obtain ⟨a, b⟩ := p
    unfold mset
    by_cases c : k = a
    · rw [if_pos c]
      unfold mget
      by_cases c2 : z = a
      · rw [if_pos c2, if_pos (by omega)]
      · rw [if_neg c2, if_neg (by omega), if_neg c2]
    · rw [if_neg c]
      unfold mget
      by_cases c2 : z = a
      · rw [if_pos c2, if_pos c2, if_neg (by omega)]
      · rw [if_neg c2, if_neg c2]
        exact ih
theorem cloneInts_eq {l : List Int} (h : l.length ≤ 1000000000) : slices_Clone_int_F l = some l := by
  unfold slices_Clone_int_F
  rw [ck_some (by omega)]; rfl
def arcI (L : List Arc) (arcs : List Int) (i : Nat) : Arc := L.getD (arcs.getD i 0).toNat El.d
structure Chain (L : List Arc) (arcs : List Int) (a b : Int) : Prop where
  rg : ∀ i, i < arcs.length → 0 ≤ arcs.getD i 0 ∧ arcs.getD i 0 < (L.length : Int)
  nd : ∃ nd : Nat → Int, nd 0 = a ∧ nd arcs.length = b ∧ ∀ i, i < arcs.length → (arcI L arcs i).f = nd i ∧ (arcI L arcs i).t = nd (i + 1)
  inj : ∀ i j, i < arcs.length → j < arcs.length → arcs.getD i 0 = arcs.getD j 0 → i = j
def inA (arcs : List Int) (k : Nat) : Int := if (k : Int) ∈ arcs then 1 else 0
structure Fits (L : List Arc) (left : List Int) (p : Piece) (a b : Int) : Prop where
  ch : Chain L p.arcs a b
  len : 1 ≤ p.arcs.length
  a1 : 1 ≤ p.amount
  a2 : p.amount ≤ 10000
  le : ∀ i, i < p.arcs.length → p.amount ≤ left.getD (p.arcs.getD i 0).toNat 0
theorem take_ok {L : List Arc} {left : List Int} {p : Piece} {a b : Int} (hl : left.length = L.length) (hr : ∀ k, k < L.length → 0 ≤ left.getD k 0 ∧ left.getD k 0 ≤ 10000) (h : Fits L left p a b) :
    ∃ left', flow_take_F left p = some left' ∧ left'.length = L.length ∧ (∀ k, k < L.length → left'.getD k 0 = left.getD k 0 - p.amount * inA p.arcs k) ∧ ∀ z, netAt L left' z = netAt L left z - p.amount * ((if a = z then 1 else 0) - (if b = z then 1 else 0)) := by
  obtain ⟨nd, n0, n1, hnd⟩ := h.ch.nd
  have ha1 := h.a1; have ha2 := h.a2
  obtain ⟨left', e, i1, i2, i3, i4⟩ := forN_inv (f := flow_take_B1 p) (fun j (l : List Int) => l.length = L.length ∧ (∀ k, k < L.length → (∀ i, i < j → p.arcs.getD i 0 ≠ (k : Int)) → l.getD k 0 = left.getD k 0) ∧ (∀ i, i < j → l.getD (p.arcs.getD i 0).toNat 0 = left.getD (p.arcs.getD i 0).toNat 0 - p.amount) ∧ ∀ z, netAt L l z = netAt L left z - p.amount * ((if a = z then 1 else 0) - (if nd j = z then 1 else 0))) (n := p.arcs.length) (k := 0) (s := left) ⟨hl, fun k hk _ => rfl, fun i hi => absurd hi (by omega), fun z => by rw [n0, Int.sub_self, Int.mul_zero, Int.sub_zero]⟩ fun j l _ hj ⟨i1, i2, i3, i4⟩ => by
    have hj' : j < p.arcs.length := by omega
    have hrg := h.ch.rg j hj'
    have hle := h.le j hj'
    have hk : (p.arcs.getD j 0).toNat < L.length := by omega
    have hkk : (((p.arcs.getD j 0).toNat : Nat) : Int) = p.arcs.getD j 0 := by omega
    have hold := i2 (p.arcs.getD j 0).toNat hk fun i hi e => by
      have := h.ch.inj i j (by omega) hj' (by rw [e, hkk])
      omega
    have hr' := hr _ hk
    unfold flow_take_B1
    rw [ck_some (by omega), ck_some (inI_small (by omega) (by omega))]
    refine ⟨_, rfl, by simpa using i1, fun k hk2 hi => ?_, fun i hi => ?_, fun z => ?_⟩
    · rw [getD_set', if_neg (fun q => hi j (by omega) (by omega))]
      exact i2 k hk2 fun i hi' => hi i (by omega)
    · rw [getD_set']
      by_cases e : i = j
      · subst e
        rw [if_pos ⟨rfl, by omega⟩, hold]
      · have hri := h.ch.rg i (by omega)
        rw [if_neg (fun q => e (h.ch.inj i j (by omega) hj' (by omega)))]
        exact i3 i (by omega)
    · obtain ⟨f1, f2⟩ := hnd j hj'
      unfold arcI at f1 f2
      rw [netAt_set hk i1, i4 z, f1, f2, show l.getD (p.arcs.getD j 0).toNat 0 - p.amount - l.getD (p.arcs.getD j 0).toNat 0 = -p.amount by omega, Int.neg_mul, Int.mul_sub, Int.mul_sub, Int.mul_sub]
      omega
  rw [Nat.zero_add] at i2 i3 i4
  refine ⟨left', ?_, i1, fun k hk => ?_, fun z => by rw [i4 z, n1]⟩
  · unfold flow_take_F
    rw [e, bind_some']
  · unfold inA
    by_cases c : (k : Int) ∈ p.arcs
    · obtain ⟨i, hi, e⟩ := getD_of_mem (d := 0) c
      rw [if_pos c, Int.mul_one]
      have := i3 i hi
      rw [e, Int.toNat_natCast] at this
      exact this
    · rw [if_neg c, Int.mul_zero, Int.sub_zero]
      exact i2 k hk fun i hi e => c (by rw [← e]; exact mem_getD hi)
theorem amount_ok {L : List Arc} {left arcs : List Int} {a b : Int} (hl : left.length = L.length) (hr : ∀ k, k < L.length → 0 ≤ left.getD k 0 ∧ left.getD k 0 ≤ 10000) (hc : Chain L arcs a b) (hlen : 1 ≤ arcs.length) (hlen2 : arcs.length ≤ 1000) (hpos : ∀ i, i < arcs.length → 0 < left.getD (arcs.getD i 0).toNat 0) :
    ∃ x, flow_amount_F left arcs = some ⟨x, arcs⟩ ∧ Fits L left ⟨x, arcs⟩ a b := by
  have r0 := hc.rg 0 (by omega)
  have p0 := hpos 0 (by omega)
  have b0 := hr (arcs.getD 0 0).toNat (by omega)
  obtain ⟨x, e, h1, h2, h3⟩ := forN_inv (f := flow_amount_B1 left arcs) (fun j (x : Int) => 1 ≤ x ∧ x ≤ 10000 ∧ ∀ i, i < j → x ≤ left.getD (arcs.getD i 0).toNat 0) (n := arcs.length) (k := 0) (s := left.getD (arcs.getD 0 0).toNat 0) ⟨by omega, by omega, fun i hi => absurd hi (by omega)⟩ fun j x _ hj ⟨i1, i2, i3⟩ => by
    have rj := hc.rg j (by omega)
    have pj := hpos j (by omega)
    unfold flow_amount_B1
    rw [ck_some (by omega)]
    refine ⟨_, rfl, by omega, by omega, fun i hi => ?_⟩
    by_cases e : i = j
    · subst e; omega
    · have := i3 i (by omega); omega
  refine ⟨x, ?_, hc, hlen, h1, h2, fun i hi => h3 i (by dsimp only at hi; omega)⟩
  unfold flow_amount_F
  rw [ck_some (by omega), ck_some (by omega), cloneInts_eq (by omega), bind_some', e, bind_some']
theorem out_of_in {L : List Arc} {left : List Int} (hr : ∀ k, k < L.length → 0 ≤ left.getD k 0 ∧ left.getD k 0 ≤ 10000) {x : Int} (hx : 0 ≤ netAt L left x) {k : Nat} (hk : k < L.length) (ht : (L.getD k El.d).t = x) (hp : 0 < left.getD k 0) : ∃ j, j < L.length ∧ (L.getD j El.d).f = x ∧ 0 < left.getD j 0 := by
  refine Classical.byContradiction fun c => ?_
  have hno : ∀ j, j < L.length → (L.getD j El.d).f = x → left.getD j 0 = 0 := fun j hj hf => by
    have := hr j hj
    refine Classical.byContradiction fun z => c ⟨j, hj, hf, by omega⟩
  have h1 : netAt L left x ≤ tot (fun j => if j = k then -left.getD k 0 else 0) L.length := tot_le fun j hj => by
    have := hr j hj
    unfold term
    by_cases e : j = k
    · subst e
      rw [if_pos rfl, if_pos ht]
      split
      · rename_i q; have := hno j hj q; omega
      · omega
    · rw [if_neg e]
      split
      · rename_i q
        have := hno j hj q
        split <;> omega
      · split <;> omega
  rw [tot_single hk fun i _ hi => if_neg hi, if_pos rfl] at h1
  omega
theorem next_ok {N : Net} {left : List Int} (hl : left.length = N.as.length) (hr : ∀ k, k < N.as.length → 0 ≤ left.getD k 0 ∧ left.getD k 0 ≤ 10000) (hm : N.as.length ≤ 60) {x : Int} (hout : ∃ j, j < N.as.length ∧ (N.as.getD j El.d).f = x ∧ 0 < left.getD j 0) :
    ∃ (k0 k : Nat), slices_IndexFunc_Arc_flow_piece_c1_F N.as x = some (k0 : Int) ∧ loopC (flow_piece_B2 N left x) 1000000 (k0 : Int) = some (.go (k : Int)) ∧ k < N.as.length ∧ (N.as.getD k El.d).f = x ∧ 0 < left.getD k 0 := by
  obtain ⟨w, hw, hf, hp⟩ := hout
  have hidx : ∃ k0 : Nat, slices_IndexFunc_Arc_flow_piece_c1_F N.as x = some (k0 : Int) ∧ k0 ≤ w := by
    obtain ⟨q, e, k0, rfl, h⟩ := forC_or (f := slices_IndexFunc_Arc_flow_piece_c1_B1 N.as x) (fun j _ => j ≤ w) (fun q : Ex Unit Int => ∃ k0 : Nat, q = .ret (k0 : Int) ∧ k0 ≤ w) (n := N.as.length) (k := 0) (s := ()) (by omega) (fun j s _ hj hI => by
      unfold slices_IndexFunc_Arc_flow_piece_c1_B1 flow_piece_c1_F
      rw [bind_some']
      by_cases c : (N.as.getD j El.d).f = x
      · rw [decide_eq_true c, if_pos rfl]
        exact .inr (.inr ⟨_, rfl, j, rfl, hI⟩)
      · rw [decide_eq_false c, if_neg (by decide)]
        have hne : j ≠ w := fun z => c (by rw [z]; exact hf)
        exact .inl ⟨(), rfl, by omega⟩) (fun s hI => by omega)
    refine ⟨k0, ?_, h⟩
    unfold slices_IndexFunc_Arc_flow_piece_c1_F
    rw [e, bind_some']
  obtain ⟨k0, e0, hk0⟩ := hidx
  obtain ⟨q, e, k, rfl, h1, h2, h3⟩ := loopC_or (f := flow_piece_B2 N left x) (fun (t : Int) => ∃ j : Nat, t = (j : Int) ∧ j ≤ w) (fun q => ∃ k : Nat, q = .go (k : Int) ∧ k < N.as.length ∧ (N.as.getD k El.d).f = x ∧ 0 < left.getD k 0) (fun t => w - t.toNat) (fun t ⟨j, e, hj⟩ => by
    subst e
    unfold flow_piece_B2
    rw [ck_some (by omega), Int.toNat_natCast]
    by_cases c : left.getD j 0 = 0
    · rw [if_pos c, bind_some']
      dsimp only
      have hne : j ≠ w := fun z => by rw [z] at c; omega
      rw [ck_some (inI_small (by omega) (by omega))]
      exact .inl ⟨_, rfl, ⟨j + 1, by omega, by omega⟩, by omega⟩
    · rw [if_neg c, ck_some (by omega)]
      by_cases c2 : (N.as.getD j El.d).f ≠ x
      · rw [if_pos c2, bind_some']
        dsimp only
        have hne : j ≠ w := fun z => c2 (by rw [z]; exact hf)
        rw [ck_some (inI_small (by omega) (by omega))]
        exact .inl ⟨_, rfl, ⟨j + 1, by omega, by omega⟩, by omega⟩
      · rw [if_neg c2, bind_some']
        have c2' : (N.as.getD j El.d).f = x := Classical.byContradiction c2
        have := hr j (by omega)
        exact .inr (.inl ⟨_, rfl, j, rfl, by omega, c2', by omega⟩)) (n := 1000000) (s := (k0 : Int)) ⟨k0, rfl, hk0⟩ (by omega)
  exact ⟨k0, k, e0, e, h1, h2, h3⟩
theorem snoc_getD {l : List Int} {a : Int} {i : Nat} : (l ++ [a]).getD i 0 = if i < l.length then l.getD i 0 else if i = l.length then a else 0 := by
  simp only [List.getD_eq_getElem?_getD, List.getElem?_append]
  split
  · rfl
  · split
    · rename_i h; subst h; simp
    · rename_i h1 h2; rw [List.getElem?_eq_none (by simp; omega)]; rfl
structure WalkI (N : Net) (left : List Int) (a : Int) (nd : Nat → Int) (x : Int) (l : List Int) (mm : List (Int × Int)) : Prop where
  z : nd 0 = a
  e : nd l.length = x
  st : ∀ i, i < l.length → 0 ≤ l.getD i 0 ∧ l.getD i 0 < (N.as.length : Int) ∧ (arcI N.as l i).f = nd i ∧ (arcI N.as l i).t = nd (i + 1) ∧ 0 < left.getD (l.getD i 0).toNat 0
  rg : ∀ i, i ≤ l.length → 0 ≤ nd i ∧ nd i < 12 ∧ mget mm (nd i) = some (i : Int)
  at_ : ∀ z i, mget mm z = some i → 0 ≤ i ∧ i ≤ (l.length : Int) ∧ nd i.toNat = z
  out : x ≠ N.t → ∃ j, j < N.as.length ∧ (N.as.getD j El.d).f = x ∧ 0 < left.getD j 0
theorem WalkI.inj {N : Net} {left : List Int} {a : Int} {nd : Nat → Int} {x : Int} {l : List Int} {mm : List (Int × Int)} (h : WalkI N left a nd x l mm) {i j : Nat} (hi : i ≤ l.length) (hj : j ≤ l.length) (e : nd i = nd j) : i = j := by
  have a1 := (h.rg i hi).2.2
  have a2 := (h.rg j hj).2.2
  rw [e, a2] at a1
  injection a1 with a1
  omega
theorem WalkI.short {N : Net} {left : List Int} {a : Int} {nd : Nat → Int} {x : Int} {l : List Int} {mm : List (Int × Int)} (h : WalkI N left a nd x l mm) : l.length < 12 := by
  have key : ∀ j, j ≤ l.length + 1 → j ≤ cnt (fun y => decide (∃ i, i < j ∧ nd i = (y : Int))) 12 := fun j => by
    induction j with
    | zero => intro _; exact Nat.zero_le _
    | succ j ih =>
      intro hj
      have hrg := h.rg j (by omega)
      have := cnt_lt (S := fun y => decide (∃ i, i < j ∧ nd i = (y : Int))) (T := fun y => decide (∃ i, i < j + 1 ∧ nd i = (y : Int))) (n := 12) (y := (nd j).toNat) (fun y _ hy => by
        simp only [decide_eq_true_eq] at hy ⊢
        obtain ⟨i, hi, ei⟩ := hy
        exact ⟨i, by omega, ei⟩) (by omega) (by simp only [decide_eq_true_eq]; exact ⟨j, by omega, by omega⟩) (by
        simp only [decide_eq_false_iff_not]
        rintro ⟨i, hi, ei⟩
        have := h.inj (i := i) (j := j) (by omega) (by omega) (by omega)
        omega)
      have := ih (by omega)
      omega
  have h1 := key (l.length + 1) (Nat.le_refl _)
  have h2 := cnt_le (fun y => decide (∃ i, i < l.length + 1 ∧ nd i = (y : Int))) 12
  omega
theorem WalkI.chain {N : Net} {left : List Int} {a : Int} {nd : Nat → Int} {x : Int} {l : List Int} {mm : List (Int × Int)} (h : WalkI N left a nd x l mm) : Chain N.as l a x :=
  ⟨fun i hi => ⟨(h.st i hi).1, (h.st i hi).2.1⟩, ⟨nd, h.z, h.e, fun i hi => ⟨(h.st i hi).2.2.1, (h.st i hi).2.2.2.1⟩⟩, fun i j hi hj e => by
    have a1 := (h.st i hi).2.2.1
    have a2 := (h.st j hj).2.2.1
    unfold arcI at a1 a2
    rw [e, a2] at a1
    exact h.inj (by omega) (by omega) a1.symm⟩
structure Going (N : Net) (left : List Int) : Prop where
  len : left.length = N.as.length
  m60 : N.as.length ≤ 60
  r : ∀ k, k < N.as.length → 0 ≤ left.getD k 0 ∧ left.getD k 0 ≤ 10000
  arc : ∀ k, k < N.as.length → 0 ≤ (N.as.getD k El.d).f ∧ (N.as.getD k El.d).f < 12 ∧ 0 ≤ (N.as.getD k El.d).t ∧ (N.as.getD k El.d).t < 12
  bal : ∀ z, z ≠ N.t → 0 ≤ netAt N.as left z
theorem piece_ok {N : Net} {left : List Int} (hg : Going N left) {a : Int} (ha : a ≠ N.t) (hout : ∃ j, j < N.as.length ∧ (N.as.getD j El.d).f = a ∧ 0 < left.getD j 0) :
    ∃ p r, flow_piece_F N left a = some (p, r) ∧ ((r = false ∧ Fits N.as left p a N.t) ∨ (r = true ∧ ∃ b, Fits N.as left p b b)) := by
  have hl := hg.len; have m60 := hg.m60
  have ha12 : 0 ≤ a ∧ a < 12 := by
    obtain ⟨j, hj, e, _⟩ := hout
    have := hg.arc j hj
    omega
  obtain ⟨q, e, h⟩ := loopC_or (f := flow_piece_B1 N left) (fun (τ : Int × List Int × List (Int × Int)) => ∃ nd, WalkI N left a nd τ.1 τ.2.1 τ.2.2) (fun q => (∃ nd l mm, q = .go (N.t, l, mm) ∧ WalkI N left a nd N.t l mm) ∨ ∃ p b, q = .ret (p, true) ∧ Fits N.as left p b b) (fun τ => 12 - cnt (fun z => (mget τ.2.2 (z : Int)).isSome) 12) (fun τ ⟨nd, h⟩ => by
    obtain ⟨x, l, mm⟩ := τ
    dsimp only at h
    unfold flow_piece_B1
    dsimp only
    by_cases c : x = N.t
    · rw [if_neg (fun z => z c)]
      subst c
      exact .inr (.inl ⟨_, rfl, .inl ⟨nd, l, mm, rfl, h⟩⟩)
    · rw [if_pos c]
      obtain ⟨k0, k, e1, e2, hk, hf, hp⟩ := next_ok hl hg.r m60 (h.out c)
      have hlen := h.short
      have hA := hg.arc k hk
      rw [e1, bind_some', e2, bind_some']
      dsimp only
      rw [ck_some (by omega), ck_some (by omega), Int.toNat_natCast]
      
      have st' : ∀ i, i < l.length + 1 → 0 ≤ (l ++ [(k : Int)]).getD i 0 ∧ (l ++ [(k : Int)]).getD i 0 < (N.as.length : Int) ∧ (arcI N.as (l ++ [(k : Int)]) i).f = nd i ∧ (arcI N.as (l ++ [(k : Int)]) i).t = (if i + 1 ≤ l.length then nd (i + 1) else (N.as.getD k El.d).t) ∧ 0 < left.getD ((l ++ [(k : Int)]).getD i 0).toNat 0 := fun i hi => by
        unfold arcI
        rw [snoc_getD]
        by_cases ei : i < l.length
        · rw [if_pos ei, if_pos (by omega)]
          exact h.st i ei
        · rw [if_neg ei, if_pos (by omega), if_neg (by omega), Int.toNat_natCast, show i = l.length by omega, h.e]
          exact ⟨by omega, by omega, hf, rfl, hp⟩
      cases hmg : mget mm (N.as.getD k El.d).t with
      | some pos =>
        obtain ⟨q0, q1, q2⟩ := h.at_ _ _ hmg
        rw [if_pos (show (some pos).isSome = true from rfl)]
        simp only [Option.getD_some]
        rw [ck_some q0, ck_some (by omega)]
        obtain ⟨i0, rfl⟩ : ∃ i0 : Nat, pos = (i0 : Int) := ⟨pos.toNat, by omega⟩
        rw [Int.toNat_natCast] at q2 ⊢
        have hsl : (subl (l ++ [(k : Int)]) i0 (l.length + 1 - i0)).length = l.length + 1 - i0 := subl_len (by simp; omega)
        have hget : ∀ i, i < l.length + 1 - i0 → (subl (l ++ [(k : Int)]) i0 (l.length + 1 - i0)).getD i 0 = (l ++ [(k : Int)]).getD (i + i0) 0 := fun i hi => subl_getD (xs := l ++ [(k : Int)]) hi
        have hch : Chain N.as (subl (l ++ [(k : Int)]) i0 (l.length + 1 - i0)) (N.as.getD k El.d).t (N.as.getD k El.d).t := by
          refine ⟨fun i hi => ?_, ⟨fun i => if i + i0 ≤ l.length then nd (i + i0) else (N.as.getD k El.d).t, ?_, ?_, fun i hi => ?_⟩, fun i j hi hj ee => ?_⟩
          · rw [hsl] at hi
            rw [hget i hi]
            have := st' (i + i0) (by omega)
            exact ⟨this.1, this.2.1⟩
          · dsimp only
            rw [if_pos (by omega), Nat.zero_add]; exact q2
          · rw [hsl]
            dsimp only
            rw [if_neg (by omega)]
          · rw [hsl] at hi
            have := st' (i + i0) (by omega)
            unfold arcI at this ⊢
            dsimp only
            rw [hget i hi, if_pos (by omega), show i + 1 + i0 = i + i0 + 1 by omega]
            exact ⟨this.2.2.1, this.2.2.2.1⟩
          · rw [hsl] at hi hj
            rw [hget i hi, hget j hj] at ee
            have a1 := (st' (i + i0) (by omega)).2.2.1
            have a2 := (st' (j + i0) (by omega)).2.2.1
            unfold arcI at a1 a2
            rw [ee, a2] at a1
            have := h.inj (i := j + i0) (j := i + i0) (by omega) (by omega) a1
            omega
        obtain ⟨y, ey, hfit⟩ := amount_ok hl hg.r hch (by omega) (by omega) (fun i hi => by
          rw [hsl] at hi
          rw [hget i hi]
          exact (st' (i + i0) (by omega)).2.2.2.2)
        rw [ey, bind_some']
        exact .inr (.inr ⟨_, rfl, .inr ⟨_, _, rfl, hfit⟩⟩)
      | none =>
        rw [if_neg (show ¬ ((none : Option Int).isSome = true) from by decide)]
        have hnew : ∀ i, i ≤ l.length → nd i ≠ (N.as.getD k El.d).t := fun i hi z => by
          have := (h.rg i hi).2.2
          rw [z, hmg] at this
          cases this
        have hW : WalkI N left a (fun i => if i ≤ l.length then nd i else (N.as.getD k El.d).t) (N.as.getD k El.d).t (l ++ [(k : Int)]) (mset mm (N.as.getD k El.d).t (((l.length + 1 : Nat) : Int))) := by
          refine ⟨by rw [if_pos (Nat.zero_le _)]; exact h.z, by rw [if_neg (by simp)], fun i hi => ?_, fun i hi => ?_, fun z i hz => ?_, fun c2 => out_of_in hg.r (hg.bal _ c2) hk rfl hp⟩
          · simp only [List.length_append, List.length_cons, List.length_nil] at hi
            obtain ⟨s1, s2, s3, s4, s5⟩ := st' i (by omega)
            rw [if_pos (by omega)]
            exact ⟨s1, s2, s3, s4, s5⟩
          · simp only [List.length_append, List.length_cons, List.length_nil] at hi
            rw [mget_mset]
            by_cases ei : i ≤ l.length
            · rw [if_pos ei, if_neg (hnew i ei)]
              exact h.rg i ei
            · rw [if_neg ei, if_pos rfl]
              exact ⟨by omega, by omega, by congr 1; omega⟩
          · rw [mget_mset] at hz
            simp only [List.length_append, List.length_cons, List.length_nil]
            by_cases ez : z = (N.as.getD k El.d).t
            · rw [if_pos ez] at hz
              injection hz with hz
              subst hz
              rw [Int.toNat_natCast, if_neg (by omega)]
              exact ⟨by omega, by omega, ez.symm⟩
            · rw [if_neg ez] at hz
              obtain ⟨w0, w1, w2⟩ := h.at_ z i hz
              rw [if_pos (by omega)]
              exact ⟨w0, by omega, w2⟩
        refine .inl ⟨_, rfl, ⟨_, hW⟩, ?_⟩
        dsimp only
        have hc := cnt_lt (S := fun z => (mget mm (z : Int)).isSome) (T := fun z => (mget (mset mm (N.as.getD k El.d).t ((l.length + 1 : Nat) : Int)) (z : Int)).isSome) (n := 12) (y := (N.as.getD k El.d).t.toNat) (fun z _ hz => by
          rw [mget_mset]
          split
          · rfl
          · exact hz) (by omega) (by rw [mget_mset, if_pos (by omega)]; rfl) (by rw [show (((N.as.getD k El.d).t.toNat : Nat) : Int) = (N.as.getD k El.d).t by omega, hmg]; rfl)
        have := cnt_le (fun z => (mget (mset mm (N.as.getD k El.d).t ((l.length + 1 : Nat) : Int)) (z : Int)).isSome) 12
        omega) (n := 1000000) (s := (a, [], mset [] a 0)) ⟨fun _ => a, rfl, rfl, fun i hi => absurd hi (by simp), fun i hi => by
      obtain rfl : i = 0 := by simpa using hi
      exact ⟨ha12.1, ha12.2, by simp [mset, mget]⟩, (fun z i hz => by
      simp only [mset, mget] at hz
      by_cases ez : z = a
      · rw [if_pos ez] at hz
        injection hz with hz
        subst hz
        exact ⟨by omega, by simp, ez.symm⟩
      · rw [if_neg ez] at hz; cases hz), fun _ => hout⟩ (by dsimp only; omega)
  unfold flow_piece_F
  rw [e, bind_some']
  rcases h with ⟨nd, l, mm, rfl, h⟩ | ⟨p, b, rfl, h⟩
  · dsimp only
    have hne : 1 ≤ l.length := by
      rcases Nat.eq_zero_or_pos l.length with z | z
      · have h1 := h.z; have h2 := h.e
        rw [z] at h2
        exact absurd (h1.symm.trans h2) ha
      · exact z
    have hl12 := h.short
    obtain ⟨y, ey, hfit⟩ := amount_ok hl hg.r h.chain hne (by omega) (fun i hi => (h.st i hi).2.2.2.2)
    rw [ey, bind_some']
    exact ⟨_, _, rfl, .inl ⟨rfl, hfit⟩⟩
  · exact ⟨p, true, rfl, .inr ⟨rfl, b, h⟩⟩
def amtL : List Piece → Nat → Int
  | [], _ => 0
  | p :: ps, k => p.amount * inA p.arcs k + amtL ps k
def valL : List Piece → Int
  | [] => 0
  | p :: ps => p.amount + valL ps
theorem amtL_snoc (ps : List Piece) (p : Piece) (k : Nat) : amtL (ps ++ [p]) k = amtL ps k + p.amount * inA p.arcs k := by
  induction ps with
  | nil => simp [amtL]
  | cons q ps ih => simp only [List.cons_append, amtL, ih]; omega
theorem valL_snoc (ps : List Piece) (p : Piece) : valL (ps ++ [p]) = valL ps + p.amount := by
  induction ps with
  | nil => simp [valL]
  | cons q ps ih => simp only [List.cons_append, valL, ih]; omega
structure PieceP (L : List Arc) (p : Piece) (a b : Int) : Prop where
  ch : Chain L p.arcs a b
  len : 1 ≤ p.arcs.length
  a1 : 1 ≤ p.amount
theorem Fits.piece {L : List Arc} {left : List Int} {p : Piece} {a b : Int} (h : Fits L left p a b) : PieceP L p a b := ⟨h.ch, h.len, h.a1⟩
theorem Fits.less {L : List Arc} {left : List Int} {p : Piece} {a b : Int} (h : Fits L left p a b) {x : Int} (h0 : 1 ≤ x) (hx : x ≤ p.amount) : Fits L left ⟨x, p.arcs⟩ a b :=
  ⟨h.ch, h.len, h0, by have := h.a2; dsimp only; omega, fun i hi => by have := h.le i hi; dsimp only; omega⟩
theorem inA01 (arcs : List Int) (k : Nat) : 0 ≤ inA arcs k ∧ inA arcs k ≤ 1 := by unfold inA; split <;> omega
theorem tot_lt {f g : Nat → Int} {n : Nat} (h : ∀ i, i < n → f i ≤ g i) {k : Nat} (hk : k < n) (hlt : f k < g k) : tot f n < tot g n := by
  have h1 := tot_le h
  rcases Int.lt_or_le (tot f n) (tot g n) with c | c
  · exact c
  · have := tot_eq_each h (by omega) k hk
    omega
theorem out_of_pos {L : List Arc} {left : List Int} (hr : ∀ k, k < L.length → 0 ≤ left.getD k 0 ∧ left.getD k 0 ≤ 10000) {x : Int} (hx : 0 < netAt L left x) : ∃ j, j < L.length ∧ (L.getD j El.d).f = x ∧ 0 < left.getD j 0 := by
  refine Classical.byContradiction fun c => ?_
  have : netAt L left x ≤ tot (fun _ => 0) L.length := tot_le fun j hj => by
    have := hr j hj
    unfold term
    split
    · rename_i q
      have : ¬ 0 < left.getD j 0 := fun z => c ⟨j, hj, q, z⟩
      split <;> omega
    · split <;> omega
  rw [tot_const] at this
  omega
theorem took {L : List Arc} {left : List Int} {p : Piece} {a b : Int} (hl : left.length = L.length) (hr : ∀ k, k < L.length → 0 ≤ left.getD k 0 ∧ left.getD k 0 ≤ 10000) (h : Fits L left p a b) :
    ∃ left', flow_take_F left p = some left' ∧ left'.length = L.length ∧ (∀ k, k < L.length → 0 ≤ left'.getD k 0 ∧ left'.getD k 0 ≤ 10000) ∧ (∀ k, k < L.length → left.getD k 0 = left'.getD k 0 + p.amount * inA p.arcs k) ∧ (∀ k, k < L.length → left'.getD k 0 ≤ left.getD k 0) ∧ (∀ z, netAt L left' z = netAt L left z - p.amount * ((if a = z then 1 else 0) - (if b = z then 1 else 0))) ∧ tot (fun k => left'.getD k 0) L.length < tot (fun k => left.getD k 0) L.length := by
  obtain ⟨left', e, h1, h2, h3⟩ := take_ok hl hr h
  have ha := h.a1
  have nn : ∀ k, 0 ≤ p.amount * inA p.arcs k := fun k => Int.mul_nonneg (by omega) (inA01 _ _).1
  have low : ∀ k, k < L.length → 0 ≤ left'.getD k 0 := fun k hk => by
    rw [h2 k hk]
    unfold inA
    by_cases c : (k : Int) ∈ p.arcs
    · rw [if_pos c, Int.mul_one]
      obtain ⟨i, hi, ei⟩ := getD_of_mem (d := 0) c
      have := h.le i hi
      rw [ei, Int.toNat_natCast] at this
      omega
    · rw [if_neg c, Int.mul_zero]
      have := hr k hk
      omega
  refine ⟨left', e, h1, fun k hk => ⟨low k hk, ?_⟩, fun k hk => by rw [h2 k hk]; omega, fun k hk => by rw [h2 k hk]; have := nn k; omega, h3, ?_⟩
  · have := nn k; have := hr k hk; rw [h2 k hk]; omega
  · have r0 := h.ch.rg 0 (by have := h.len; omega)
    refine tot_lt (k := (p.arcs.getD 0 0).toNat) (fun k hk => by rw [h2 k hk]; have := nn k; omega) (by omega) ?_
    rw [h2 _ (by omega)]
    have : inA p.arcs (p.arcs.getD 0 0).toNat = 1 := by
      unfold inA
      rw [if_pos]
      rw [show (((p.arcs.getD 0 0).toNat : Nat) : Int) = p.arcs.getD 0 0 by omega]
      exact mem_getD (by have := h.len; omega)
    rw [this, Int.mul_one]
    omega
structure SI (n : Net) (f left : List Int) (ways rounds : List Piece) (x : Int) : Prop where
  len : left.length = n.as.length
  r : ∀ k, k < n.as.length → 0 ≤ left.getD k 0 ∧ left.getD k 0 ≤ 10000
  sum : ∀ k, k < n.as.length → f.getD k 0 = left.getD k 0 + amtL ways k + amtL rounds k
  bs : netAt n.as left n.s = x
  bt : netAt n.as left n.t = -x
  bz : ∀ z, z ≠ n.s → z ≠ n.t → netAt n.as left z = 0
  ws : ∀ p, p ∈ ways → PieceP n.as p n.s n.t
  rs : ∀ p, p ∈ rounds → ∃ b, PieceP n.as p b b
  cw : ways.length ≤ 600000
  cr : (rounds.length : Int) + (ways.length : Int) + tot (fun k => left.getD k 0) n.as.length ≤ 600000
theorem tot_rg {n : Net} (hm : n.as.length ≤ 60) {left : List Int} (hr : ∀ k, k < n.as.length → 0 ≤ left.getD k 0 ∧ left.getD k 0 ≤ 10000) : 0 ≤ tot (fun k => left.getD k 0) n.as.length ∧ tot (fun k => left.getD k 0) n.as.length ≤ 600000 := by
  have h1 := tot_nonneg (f := fun k => left.getD k 0) (n := n.as.length) fun k hk => (hr k hk).1
  have h2 := tot_le (f := fun k => left.getD k 0) (g := fun _ => 10000) (n := n.as.length) fun k hk => (hr k hk).2
  rw [tot_const] at h2
  omega
theorem split_round1 {n : Net} {f : List Int} (hn : OkNet n) {v x : Int} {left : List Int} {ways rounds : List Piece} (h : SI n f left ways rounds x) (hv : valL ways + x = v) (hx : 0 < x) (hx2 : x ≤ 1000000) :
    ∃ x' left' ways' rounds', flow_Split_B1 n (x, left, ways, rounds) = some (.go (x', left', ways', rounds')) ∧ SI n f left' ways' rounds' x' ∧ valL ways' + x' = v ∧ 0 ≤ x' ∧ x' ≤ 1000000 ∧ tot (fun k => left'.getD k 0) n.as.length < tot (fun k => left.getD k 0) n.as.length := by
  have hm := hn.g.len
  dsimp only at hm
  have hst : n.s ≠ n.t := hn.ne
  have hg : Going n left := ⟨h.len, hm, h.r, fun k hk => hn.small hk, fun z hz => by
    by_cases c : z = n.s
    · rw [c, h.bs]; omega
    · rw [h.bz z c hz]; exact Int.le_refl _⟩
  have hout := out_of_pos h.r (x := n.s) (by rw [h.bs]; exact hx)
  obtain ⟨p, r, ep, hp⟩ := piece_ok hg hst hout
  have cr := h.cr
  have t0 := tot_rg hm h.r
  unfold flow_Split_B1
  dsimp only
  rw [if_pos hx, ep, bind_some']
  dsimp only
  rcases hp with ⟨rfl, hF⟩ | ⟨rfl, b, hF⟩
  · have ha := hF.a1
    have hF' := hF.less (x := min p.amount x) (by omega) (by omega)
    obtain ⟨left', et, k1, k2, k3, k4, k5, k6⟩ := took h.len h.r hF'
    dsimp only at k3 k5
    have ha2 := hF.a2
    have t1 := tot_rg hm k2
    rw [if_neg (by decide), ck_some (by omega), ck_some (inI_small (by omega) (by omega))]
    try rw [bind_some']
    try dsimp only
    rw [et, bind_some', ck_some (by rw [k1, h.len])]
    refine ⟨_, _, _, _, rfl, ⟨k1, k2, fun k hk => ?_, ?_, ?_, fun z hz1 hz2 => ?_, fun q hq => ?_, h.rs, by simp only [List.length_append, List.length_cons, List.length_nil]; omega, by simp only [List.length_append, List.length_cons, List.length_nil]; omega⟩, ?_, by omega, by omega, k6⟩
    · rw [amtL_snoc, h.sum k hk, k3 k hk]; dsimp only; omega
    · rw [k5, h.bs, if_pos rfl, if_neg (fun e => hst e.symm)]; omega
    · rw [k5, h.bt, if_neg hst, if_pos rfl]; omega
    · rw [k5, h.bz z hz1 hz2, if_neg (fun e => hz1 e.symm), if_neg (fun e => hz2 e.symm)]; omega
    · rcases List.mem_append.1 hq with hq | hq
      · exact h.ws q hq
      · obtain rfl := List.mem_singleton.1 hq
        exact hF'.piece
    · rw [valL_snoc]; dsimp only; omega
  · have ha := hF.a1
    obtain ⟨left', et, k1, k2, k3, k4, k5, k6⟩ := took h.len h.r hF
    rw [if_pos rfl, ck_some (by omega)]
    try rw [bind_some']
    try dsimp only
    rw [et, bind_some', ck_some (by rw [k1, h.len])]
    have same : ∀ z, netAt n.as left' z = netAt n.as left z := fun z => by rw [k5, Int.sub_self, Int.mul_zero, Int.sub_zero]
    refine ⟨_, _, _, _, rfl, ⟨k1, k2, fun k hk => ?_, by rw [same]; exact h.bs, by rw [same]; exact h.bt, fun z hz1 hz2 => by rw [same]; exact h.bz z hz1 hz2, h.ws, fun q hq => ?_, h.cw, by simp only [List.length_append, List.length_cons, List.length_nil]; omega⟩, hv, by omega, hx2, k6⟩
    · rw [amtL_snoc, h.sum k hk, k3 k hk]; omega
    · rcases List.mem_append.1 hq with hq | hq
      · exact h.rs q hq
      · obtain rfl := List.mem_singleton.1 hq
        exact ⟨b, hF.piece⟩
theorem split_loop1 {n : Net} {f : List Int} (hf : Flow n f) (hv : 0 ≤ netAt n.as f n.s) : ∃ left ways rounds, loopC (flow_Split_B1 n) 1000000 (netAt n.as f n.s, f, [], []) = some (.go (0, left, ways, rounds)) ∧ SI n f left ways rounds 0 ∧ valL ways = netAt n.as f n.s := by
  have hn := hf.net
  have hm := hn.g.len
  dsimp only at hm
  have hr : ∀ k, k < n.as.length → 0 ≤ f.getD k 0 ∧ f.getD k 0 ≤ 10000 := fun k hk => by
    have := hf.r k (by rw [hf.len]; exact hk)
    have := (hn.arc hk).c1
    omega
  have b1 := hf.value_le n.s
  have t0 := tot_rg hm hr
  have h0 : SI n f f [] [] (netAt n.as f n.s) := ⟨hf.len, hr, fun k hk => by simp [amtL], rfl, by have := hf.ends; omega, fun z h1 h2 => by
    by_cases c : 0 ≤ z ∧ z < 12
    · have := hf.keep z.toNat (by omega) (by omega) (by omega)
      rwa [show ((z.toNat : Nat) : Int) = z by omega] at this
    · refine tot_zero fun k hk => ?_
      have := hn.small hk
      unfold term
      rw [if_neg (by omega), if_neg (by omega)]; rfl, fun p hp => (by cases hp), fun p hp => (by cases hp), by simp, by simp only [List.length_nil]; omega⟩
  obtain ⟨q, e, left, ways, rounds, rfl, h1, h2⟩ := loopC_or (f := flow_Split_B1 n) (fun (τ : Int × List Int × List Piece × List Piece) => SI n f τ.2.1 τ.2.2.1 τ.2.2.2 τ.1 ∧ valL τ.2.2.1 + τ.1 = netAt n.as f n.s ∧ 0 ≤ τ.1 ∧ τ.1 ≤ 1000000) (fun q => ∃ left ways rounds, q = .go (0, left, ways, rounds) ∧ SI n f left ways rounds 0 ∧ valL ways = netAt n.as f n.s) (fun τ => (tot (fun k => τ.2.1.getD k 0) n.as.length).toNat) (fun τ ⟨i1, i2, i3, i4⟩ => by
    obtain ⟨x, left, ways, rounds⟩ := τ
    dsimp only at i1 i2 i3 i4
    by_cases c : 0 < x
    · obtain ⟨x', left', ways', rounds', e, j1, j2, j3, j4, j5⟩ := split_round1 hn i1 i2 c i4
      have := tot_rg hm j1.r
      exact .inl ⟨_, e, ⟨j1, j2, j3, j4⟩, by dsimp only; omega⟩
    · obtain rfl : x = 0 := by omega
      refine .inr (.inl ⟨_, ?_, left, ways, rounds, rfl, i1, by omega⟩)
      unfold flow_Split_B1
      dsimp only
      rw [if_neg c]) (n := 1000000) (s := (netAt n.as f n.s, f, [], [])) ⟨h0, by simp [valL], hv, by dsimp only; omega⟩ (by dsimp only; omega)
  exact ⟨left, ways, rounds, e, h1, h2⟩
theorem split_loop2 {n : Net} {f : List Int} (hn : OkNet n) {left : List Int} {ways rounds : List Piece} (h : SI n f left ways rounds 0) {k : Nat} (hk : k < n.as.length) :
    ∃ left' rounds', flow_Split_B2 n f k (left, rounds) = some (left', rounds') ∧ SI n f left' ways rounds' 0 ∧ left'.getD k 0 = 0 ∧ ∀ j, j < n.as.length → left.getD j 0 = 0 → left'.getD j 0 = 0 := by
  have hm := hn.g.len
  dsimp only at hm
  obtain ⟨q, e, left', rounds', rfl, h1, h2, h3⟩ := loopC_or (f := flow_Split_B3 n f k) (fun (τ : List Int × List Piece) => SI n f τ.1 ways τ.2 0 ∧ ∀ j, j < n.as.length → left.getD j 0 = 0 → τ.1.getD j 0 = 0) (fun q => ∃ left' rounds', q = .go (left', rounds') ∧ SI n f left' ways rounds' 0 ∧ left'.getD k 0 = 0 ∧ ∀ j, j < n.as.length → left.getD j 0 = 0 → left'.getD j 0 = 0) (fun τ => (tot (fun k => τ.1.getD k 0) n.as.length).toNat) (fun τ ⟨i1, i2⟩ => by
    obtain ⟨l, rs⟩ := τ
    dsimp only at i1 i2
    have hl := i1.len
    have hrk := i1.r k hk
    have hA := hn.small hk
    unfold flow_Split_B3
    dsimp only
    rw [ck_some (by omega)]
    by_cases c : 0 < l.getD k 0
    · rw [if_pos c, ck_some hk]
      have hg : Going (⟨n.n, (-1), (-1), n.as⟩ : Net) l := ⟨i1.len, hm, i1.r, fun k hk => hn.small hk, fun z _ => by
        show 0 ≤ netAt n.as l z
        by_cases c1 : z = n.s
        · rw [c1, i1.bs]; exact Int.le_refl _
        · by_cases c2 : z = n.t
          · rw [c2, i1.bt]; decide
          · rw [i1.bz z c1 c2]; exact Int.le_refl _⟩
      obtain ⟨p, r, ep, hp⟩ := piece_ok hg (a := (n.as.getD k El.d).f) (by dsimp only; omega) ⟨k, hk, rfl, c⟩
      have hF : ∃ b, Fits n.as l p b b := by
        rcases hp with ⟨_, hF⟩ | ⟨_, hF⟩
        · exfalso
          obtain ⟨nd, n0, n1, hnd⟩ := hF.ch.nd
          have hlen := hF.len
          have e1 : (arcI n.as p.arcs (p.arcs.length - 1)).t = -1 := by
            have := (hnd (p.arcs.length - 1) (by omega)).2
            rw [show p.arcs.length - 1 + 1 = p.arcs.length by omega, n1] at this
            exact this
          have hrg : 0 ≤ p.arcs.getD (p.arcs.length - 1) 0 ∧ p.arcs.getD (p.arcs.length - 1) 0 < (n.as.length : Int) := hF.ch.rg (p.arcs.length - 1) (by omega)
          have e2 : 0 ≤ (arcI n.as p.arcs (p.arcs.length - 1)).t := (hn.small (k := (p.arcs.getD (p.arcs.length - 1) 0).toNat) (by omega)).2.2.1
          omega
        · exact hF
      obtain ⟨b, hF⟩ := hF
      obtain ⟨l', et, k1, k2, k3, k4, k5, k6⟩ := took i1.len i1.r hF
      have same : ∀ z, netAt n.as l' z = netAt n.as l z := fun z => by rw [k5, Int.sub_self, Int.mul_zero, Int.sub_zero]
      have cr := i1.cr
      have t0 := tot_rg hm i1.r
      have t1 := tot_rg hm k2
      rw [ep, bind_some']
      dsimp only
      rw [et, bind_some', ck_some (by rw [k1, hl]), ck_some (by omega)]
      refine .inl ⟨_, rfl, ⟨⟨k1, k2, fun j hj => ?_, by rw [same]; exact i1.bs, by rw [same]; exact i1.bt, fun z hz1 hz2 => by rw [same]; exact i1.bz z hz1 hz2, i1.ws, fun q hq => ?_, i1.cw, by simp only [List.length_append, List.length_cons, List.length_nil]; omega⟩, fun j hj hz => ?_⟩, by dsimp only; omega⟩
      · dsimp only
        rw [amtL_snoc, i1.sum j hj, k3 j hj]; omega
      · rcases List.mem_append.1 hq with hq | hq
        · exact i1.rs q hq
        · obtain rfl := List.mem_singleton.1 hq
          exact ⟨b, hF.piece⟩
      · have a1 := i2 j hj hz
        have a2 := k4 j hj
        have a3 := k2 j hj
        dsimp only
        omega
    · rw [if_neg c]
      exact .inr (.inl ⟨_, rfl, l, rs, rfl, i1, by omega, i2⟩)) (n := 1000000) (s := (left, rounds)) ⟨h, fun j _ hz => hz⟩ (by have := tot_rg hm h.r; dsimp only; omega)
  refine ⟨left', rounds', ?_, h1, h2, h3⟩
  unfold flow_Split_B2
  dsimp only
  rw [e, bind_some']
structure SplitOk (n : Net) (f : List Int) (ways rounds : List Piece) : Prop where
  sum : ∀ k, k < n.as.length → f.getD k 0 = amtL ways k + amtL rounds k
  ws : ∀ p, p ∈ ways → PieceP n.as p n.s n.t
  rs : ∀ p, p ∈ rounds → ∃ b, PieceP n.as p b b
  val : valL ways = netAt n.as f n.s
  cw : ways.length ≤ 600000
  cr : rounds.length ≤ 600000
theorem split_ok {n : Net} {f : List Int} (hf : Flow n f) (hv : 0 ≤ netAt n.as f n.s) : ∃ ways rounds, flow_Split_F n f = some (ways, rounds, 0) ∧ SplitOk n f ways rounds := by
  have hn := hf.net
  have hm := hn.g.len
  dsimp only at hm
  have hfl := hf.len
  obtain ⟨left, ways, rounds, e1, h1, h2⟩ := split_loop1 hf hv
  obtain ⟨⟨left', rounds'⟩, e2, j1, j2⟩ := forN_inv (f := flow_Split_B2 n f) (fun j (τ : List Int × List Piece) => SI n f τ.1 ways τ.2 0 ∧ ∀ i, i < j → τ.1.getD i 0 = 0) (n := left.length) (k := 0) (s := (left, rounds)) ⟨h1, fun i hi => absurd hi (by omega)⟩ fun j τ _ hj ⟨i1, i2⟩ => by
    obtain ⟨l, rs⟩ := τ
    have hl := h1.len
    obtain ⟨l', rs', e, k1, k2, k3⟩ := split_loop2 hn i1 (k := j) (by omega)
    refine ⟨_, e, k1, fun i hi => ?_⟩
    by_cases ei : i = j
    · rw [ei]; exact k2
    · exact k3 i (by omega) (i2 i (by omega))
  rw [Nat.zero_add, h1.len] at j2
  dsimp only at j1 j2
  refine ⟨ways, rounds', ?_, fun k hk => by rw [j1.sum k hk, j2 k hk]; omega, j1.ws, j1.rs, h2, j1.cw, by have := j1.cr; have := tot_rg hm j1.r; omega⟩
  unfold flow_Split_F
  rw [value_ok hf, bind_some']
  dsimp only
  rw [if_neg (by decide), if_neg (by omega), cloneInts_eq (by omega), bind_some', e1, bind_some']
  dsimp only
  rw [e2, bind_some']
theorem amtL_ge {ps : List Piece} (h : ∀ p, p ∈ ps → 1 ≤ p.amount) (k : Nat) : 0 ≤ amtL ps k ∧ ∀ p, p ∈ ps → p.amount * inA p.arcs k ≤ amtL ps k := by
  induction ps with
  | nil => exact ⟨Int.le_refl _, fun p hp => by cases hp⟩
  | cons q ps ih =>
    obtain ⟨i1, i2⟩ := ih fun p hp => h p (List.mem_cons_of_mem _ hp)
    have hq := h q (List.mem_cons_self ..)
    have h0 := Int.mul_nonneg (a := q.amount) (b := inA q.arcs k) (by omega) (inA01 _ _).1
    refine ⟨by simp only [amtL]; omega, fun p hp => ?_⟩
    simp only [amtL]
    rcases List.mem_cons.1 hp with rfl | hp
    · omega
    · have := i2 p hp; omega
theorem inA_of {arcs : List Int} {i : Nat} (hi : i < arcs.length) (h0 : 0 ≤ arcs.getD i 0) : inA arcs (arcs.getD i 0).toNat = 1 := by
  unfold inA
  rw [if_pos]
  rw [show (((arcs.getD i 0).toNat : Nat) : Int) = arcs.getD i 0 by omega]
  exact mem_getD hi
theorem chain_sub {L : List Arc} {left arcs : List Int} {a b c : Int} {f : Nat → List Int → Option (List Int)} (hl : left.length = L.length) (hch : Chain L arcs a b)
    (hstep : ∀ j l, j < arcs.length → l.length = L.length → l.getD (arcs.getD j 0).toNat 0 = left.getD (arcs.getD j 0).toNat 0 → f j l = some (l.set (arcs.getD j 0).toNat (l.getD (arcs.getD j 0).toNat 0 - c))) :
    ∃ left', forN f arcs.length 0 left = some left' ∧ left'.length = L.length ∧ (∀ k, k < L.length → left'.getD k 0 = left.getD k 0 - c * inA arcs k) ∧ ∀ z, netAt L left' z = netAt L left z - c * ((if a = z then 1 else 0) - (if b = z then 1 else 0)) := by
  obtain ⟨nd, n0, n1, hnd⟩ := hch.nd
  obtain ⟨left', e, i1, i2, i3, i4⟩ := forN_inv (f := f) (fun j (l : List Int) => l.length = L.length ∧ (∀ k, k < L.length → (∀ i, i < j → arcs.getD i 0 ≠ (k : Int)) → l.getD k 0 = left.getD k 0) ∧ (∀ i, i < j → l.getD (arcs.getD i 0).toNat 0 = left.getD (arcs.getD i 0).toNat 0 - c) ∧ ∀ z, netAt L l z = netAt L left z - c * ((if a = z then 1 else 0) - (if nd j = z then 1 else 0))) (n := arcs.length) (k := 0) (s := left) ⟨hl, fun k hk _ => rfl, fun i hi => absurd hi (by omega), fun z => by rw [n0, Int.sub_self, Int.mul_zero, Int.sub_zero]⟩ fun j l _ hj ⟨i1, i2, i3, i4⟩ => by
    have hj' : j < arcs.length := by omega
    have hrg := hch.rg j hj'
    have hk : (arcs.getD j 0).toNat < L.length := by omega
    have hkk : (((arcs.getD j 0).toNat : Nat) : Int) = arcs.getD j 0 := by omega
    have hold := i2 (arcs.getD j 0).toNat hk fun i hi e => by
      have := hch.inj i j (by omega) hj' (by rw [e, hkk])
      omega
    refine ⟨_, hstep j l hj' i1 hold, by simpa using i1, fun k hk2 hi => ?_, fun i hi => ?_, fun z => ?_⟩
    · rw [getD_set', if_neg (fun q => hi j (by omega) (by omega))]
      exact i2 k hk2 fun i hi' => hi i (by omega)
    · rw [getD_set']
      by_cases e : i = j
      · subst e
        rw [if_pos ⟨rfl, by omega⟩, hold]
      · have hri := hch.rg i (by omega)
        rw [if_neg (fun q => e (hch.inj i j (by omega) hj' (by omega)))]
        exact i3 i (by omega)
    · obtain ⟨f1, f2⟩ := hnd j hj'
      unfold arcI at f1 f2
      rw [netAt_set hk i1, i4 z, f1, f2, show l.getD (arcs.getD j 0).toNat 0 - c - l.getD (arcs.getD j 0).toNat 0 = -c by omega, Int.neg_mul, Int.mul_sub, Int.mul_sub, Int.mul_sub]
      omega
  rw [Nat.zero_add] at i2 i3 i4
  refine ⟨left', e, i1, fun k hk => ?_, fun z => by rw [i4 z, n1]⟩
  unfold inA
  by_cases q : (k : Int) ∈ arcs
  · obtain ⟨i, hi, e⟩ := getD_of_mem (d := 0) q
    rw [if_pos q, Int.mul_one]
    have := i3 i hi
    rw [e, Int.toNat_natCast] at this
    exact this
  · rw [if_neg q, Int.mul_zero, Int.sub_zero]
    exact i2 k hk fun i hi e => q (by rw [← e]; exact mem_getD hi)
theorem growP_eq {n : Nat} (hn : n ≤ 100000000) : slices_Grow_Piece_F ((n : Nat) : Int) = some [] := by
  unfold slices_Grow_Piece_F
  rw [if_neg (by omega), bind_some', ck_some (inI_small (by omega) (by omega)), ck_some (inI_small (by omega) (by omega))]
  split
  · rw [ck_some ⟨by omega, by omega⟩]; simp [subl]
  · rfl
theorem concatP_eq {l m : List Piece} (hl : l.length ≤ 1000000) (hm : m.length ≤ 1000000) : slices_Concat_Piece_F [l, m] = some (l ++ m) := by
  unfold slices_Concat_Piece_F
  have e1 : forN (slices_Concat_Piece_B1 [l, m]) 2 0 0 = some (l.length + m.length) := by
    simp only [forN, slices_Concat_Piece_B1, List.getD_cons_zero, List.getD_cons_succ]
    rw [ck_some (inI_small (by omega) (by omega)), if_neg (by omega)]
    simp only [bind_some', Nat.zero_add]
    rw [ck_some (inI_small (by omega) (by omega)), if_neg (by omega)]
    rfl
  have e2 : forN (slices_Concat_Piece_B2 [l, m]) 2 0 [] = some (l ++ m) := by
    simp only [forN, slices_Concat_Piece_B2, List.getD_cons_zero, List.getD_cons_succ]
    rw [ck_some (by simp; omega)]
    simp only [bind_some', Nat.zero_add, List.nil_append]
    rw [ck_some (by omega)]
    rfl
  show (forN (slices_Concat_Piece_B1 [l, m]) 2 0 0).bind _ = _
  rw [e1, bind_some', growP_eq (by omega), bind_some']
  show (forN (slices_Concat_Piece_B2 [l, m]) 2 0 []).bind _ = _
  rw [e2]; rfl
theorem amtL_app (ps qs : List Piece) (k : Nat) : amtL (ps ++ qs) k = amtL ps k + amtL qs k := by
  induction ps with
  | nil => simp [amtL]
  | cons p ps ih => simp only [List.cons_append, amtL, ih]; omega
@[reducible] def bit (side x : Int) : Int := bitsOf .and .u16 (Int.fdiv side (2 ^ min x.toNat 16)) 1
theorem bit_fold (side x : Int) : bitsOf .and .u16 (Int.fdiv side (2 ^ min x.toNat 16)) 1 = bit side x := rfl
theorem and1 (y : Int) : bitsOf .and .u16 y 1 = y % 2 := by
  have e : bitsOf .and .u16 y 1 = IntKind.u16.wrap (((BitVec.ofInt 16 y &&& BitVec.ofInt 16 1).toNat : Nat) : Int) := rfl
  rw [e, BitVec.toNat_and, show (BitVec.ofInt 16 1).toNat = 1 from by decide, Nat.and_one_is_mod]
  have h : (BitVec.ofInt 16 y).toNat % 2 = (y % 2).toNat := by
    rw [BitVec.toNat_ofInt]; omega
  rw [h]
  rcases (by omega : y % 2 = 0 ∨ y % 2 = 1) with h | h <;> rw [h] <;> decide
theorem bit01 (side x : Int) : bit side x = 0 ∨ bit side x = 1 := by
  unfold bit
  rw [and1]
  omega
theorem bit_lsb (a : Int) {x : Nat} (hx : x < 16) : (bit a (x : Int) = 1) = ((BitVec.ofInt 16 a).getLsbD x = true) := by
  unfold bit
  rw [and1, BitVec.getLsbD, BitVec.toNat_ofInt, Nat.testBit_eq_decide_div_mod_eq, decide_eq_true_eq, Int.toNat_natCast]
  rcases (by omega : x = 0 ∨ x = 1 ∨ x = 2 ∨ x = 3 ∨ x = 4 ∨ x = 5 ∨ x = 6 ∨ x = 7 ∨ x = 8 ∨ x = 9 ∨ x = 10 ∨ x = 11 ∨ x = 12 ∨ x = 13 ∨ x = 14 ∨ x = 15) with
    rfl | rfl | rfl | rfl | rfl | rfl | rfl | rfl | rfl | rfl | rfl | rfl | rfl | rfl | rfl | rfl <;> simp only [Nat.reducePow, Nat.min_def, Nat.reduceLeDiff, if_true, Int.reducePow] <;> (apply propext; rw [Int.fdiv_eq_ediv_of_nonneg _ (by decide)]; omega)
theorem ofInt_wrap (v : BitVec 16) : BitVec.ofInt 16 (IntKind.u16.wrap ((v.toNat : Nat) : Int)) = v := by
  have h : IntKind.u16.wrap ((v.toNat : Nat) : Int) = ((v.toNat : Nat) : Int) := by
    have := v.isLt
    show ((v.toNat : Nat) : Int) % 65536 = _
    omega
  rw [h, BitVec.ofInt_natCast, BitVec.ofNat_toNat, BitVec.setWidth_eq]
theorem bit_or (a b : Int) {x : Int} (h0 : 0 ≤ x) (h1 : x < 16) : bit (bitsOf .or .u16 a b) x = 1 ↔ bit a x = 1 ∨ bit b x = 1 := by
  obtain ⟨k, rfl⟩ := Int.eq_ofNat_of_zero_le h0
  have e : bitsOf .or .u16 a b = IntKind.u16.wrap (((BitVec.ofInt 16 a ||| BitVec.ofInt 16 b).toNat : Nat) : Int) := rfl
  rw [bit_lsb _ (by omega), bit_lsb _ (by omega), bit_lsb _ (by omega), e, ofInt_wrap, BitVec.getLsbD_or, Bool.or_eq_true]
theorem or_nat {a b : Int} (ha : 0 ≤ a ∧ a < 65536) (hb : 0 ≤ b ∧ b < 65536) : bitsOf .or .u16 a b = ((a.toNat ||| b.toNat : Nat) : Int) := by
  have e : bitsOf .or .u16 a b = IntKind.u16.wrap (((BitVec.ofInt 16 a ||| BitVec.ofInt 16 b).toNat : Nat) : Int) := rfl
  rw [e, BitVec.toNat_or, BitVec.toNat_ofInt, BitVec.toNat_ofInt, show (a % ((2 ^ 16 : Nat) : Int)).toNat = a.toNat by omega, show (b % ((2 ^ 16 : Nat) : Int)).toNat = b.toNat by omega]
  have := Nat.or_lt_two_pow (n := 16) (x := a.toNat) (y := b.toNat) (by omega) (by omega)
  show ((a.toNat ||| b.toNat : Nat) : Int) % 65536 = _
  omega
theorem fdiv_zero {a : Int} {k : Nat} : Int.fdiv a (2 ^ k) = 0 ↔ 0 ≤ a ∧ a < 2 ^ k := by
  have hp : (0 : Int) < 2 ^ k := Int.pow_pos (by decide)
  rw [Int.fdiv_eq_ediv_of_nonneg _ (by omega)]
  constructor
  · intro h
    have h1 := Int.emod_add_mul_ediv a (2 ^ k)
    rw [h, Int.mul_zero, Int.add_zero] at h1
    have := Int.emod_nonneg a (show (2 ^ k : Int) ≠ 0 by omega)
    have := Int.emod_lt_of_pos a hp
    omega
  · rintro ⟨h1, h2⟩
    exact Int.ediv_eq_zero_of_lt h1 h2
theorem pow_le16 {k : Nat} (h : k ≤ 16) : (2 ^ k : Int) ≤ 65536 := by
  have := Nat.pow_le_pow_right (n := 2) (by decide) h
  have e : ((2 ^ k : Nat) : Int) = 2 ^ k := by simp
  omega
theorem hi_or {a b : Int} {k : Nat} (hk : k ≤ 16) (ha : Int.fdiv a (2 ^ k) = 0) (hb : Int.fdiv b (2 ^ k) = 0) : Int.fdiv (bitsOf .or .u16 a b) (2 ^ k) = 0 := by
  rw [fdiv_zero] at ha hb ⊢
  have := pow_le16 hk
  rw [or_nat (by omega) (by omega)]
  have e : ((2 ^ k : Nat) : Int) = 2 ^ k := by simp
  have := Nat.or_lt_two_pow (n := k) (x := a.toNat) (y := b.toNat) (by omega) (by omega)
  omega
def shl (y : Int) : Int := IntKind.u16.wrap (1 * 2 ^ min y.toNat 16)
theorem shl_table : ∀ y : Fin 16, ∀ x : Fin 16, decide (bit (shl ((y.val : Nat) : Int)) ((x.val : Nat) : Int) = 1) = decide (x.val = y.val) := by decide +kernel
theorem bit_shl {x y : Int} (hx : 0 ≤ x ∧ x < 16) (hy : 0 ≤ y ∧ y < 16) : bit (shl y) x = 1 ↔ x = y := by
  have h := shl_table ⟨y.toNat, by omega⟩ ⟨x.toNat, by omega⟩
  rw [decide_eq_decide] at h
  dsimp only at h
  rw [show ((y.toNat : Nat) : Int) = y by omega, show ((x.toNat : Nat) : Int) = x by omega] at h
  rw [h]; omega
theorem shl_hi_table : ∀ n : Fin 17, ∀ y : Fin 16, y.val < n.val → Int.fdiv (shl ((y.val : Nat) : Int)) (2 ^ n.val) = 0 := by decide +kernel
theorem shl_hi {y : Int} {n : Nat} (hn : n ≤ 16) (h0 : 0 ≤ y) (h1 : y < n) : Int.fdiv (shl y) (2 ^ n) = 0 := by
  have h := shl_hi_table ⟨n, by omega⟩ ⟨y.toNat, by omega⟩ (by dsimp only; omega)
  dsimp only at h
  rwa [show ((y.toNat : Nat) : Int) = y by omega] at h
structure Side (n : Net) (side : Int) : Prop where
  net : OkNet n
  hi : Int.fdiv side (2 ^ min n.n.toNat 16) = 0
  s : bit side n.s = 1
  t : bit side n.t = 0
theorem Side.cut {n : Net} {side : Int} (h : Side n side) : Cut n (bit side) := ⟨h.s, h.t, bit01 side⟩
def halfS (c : Bool) (s x y : Int) : Int := if c = true ∧ bit s x = 1 then bitsOf .or .u16 s (shl y) else s
def ends (L : List Arc) (turned : Bool) (k : Nat) : Int × Int := if turned = true then ((L.getD k El.d).t, (L.getD k El.d).f) else ((L.getD k El.d).f, (L.getD k El.d).t)
def stepS (L : List Arc) (f : List Int) (turned : Bool) (s : Int) (k : Nat) : Int :=
  halfS (decide (0 < f.getD k 0)) (halfS (decide (f.getD k 0 < (L.getD k El.d).c)) s (ends L turned k).1 (ends L turned k).2) (ends L turned k).2 (ends L turned k).1
theorem half_iff {c : Bool} {s x y z : Int} (hy : 0 ≤ y ∧ y < 16) (hz : 0 ≤ z ∧ z < 16) : bit (halfS c s x y) z = 1 ↔ bit s z = 1 ∨ (z = y ∧ c = true ∧ bit s x = 1) := by
  unfold halfS
  by_cases h : c = true ∧ bit s x = 1
  · rw [if_pos h, bit_or s (shl y) hz.1 hz.2, bit_shl hz hy]
    constructor
    · rintro (h1 | h1)
      · exact .inl h1
      · exact .inr ⟨h1, h⟩
    · rintro (h1 | ⟨h1, _⟩)
      · exact .inl h1
      · exact .inr h1
  · rw [if_neg h]
    constructor
    · exact .inl
    · rintro (h1 | ⟨_, h1⟩)
      · exact h1
      · exact absurd h1 h
theorem half_hi {c : Bool} {s x y : Int} {n : Nat} (hn : n ≤ 16) (hy : 0 ≤ y ∧ y < n) (hs : Int.fdiv s (2 ^ n) = 0) : Int.fdiv (halfS c s x y) (2 ^ n) = 0 := by
  unfold halfS
  split
  · exact hi_or hn hs (shl_hi hn hy.1 hy.2)
  · exact hs
theorem step_iff {L : List Arc} {f : List Int} {turned : Bool} {s z : Int} {k : Nat} (h1 : 0 ≤ (ends L turned k).1 ∧ (ends L turned k).1 < 16) (h2 : 0 ≤ (ends L turned k).2 ∧ (ends L turned k).2 < 16) (hz : 0 ≤ z ∧ z < 16) :
    bit (stepS L f turned s k) z = 1 ↔ bit s z = 1 ∨ (z = (ends L turned k).2 ∧ f.getD k 0 < (L.getD k El.d).c ∧ bit s (ends L turned k).1 = 1) ∨
      (z = (ends L turned k).1 ∧ 0 < f.getD k 0 ∧ (bit s (ends L turned k).2 = 1 ∨ (f.getD k 0 < (L.getD k El.d).c ∧ bit s (ends L turned k).1 = 1))) := by
  unfold stepS
  rw [half_iff h1 hz, half_iff h2 hz, half_iff h2 h2, decide_eq_true_eq, decide_eq_true_eq]
  constructor
  · rintro ((h | h) | ⟨h, hc, h3 | ⟨_, h3⟩⟩)
    · exact .inl h
    · exact .inr (.inl h)
    · exact .inr (.inr ⟨h, hc, .inl h3⟩)
    · exact .inr (.inr ⟨h, hc, .inr h3⟩)
  · rintro (h | h | ⟨h, hc, h3 | h3⟩)
    · exact .inl (.inl h)
    · exact .inl (.inr h)
    · exact .inr ⟨h, hc, .inl h3⟩
    · exact .inr ⟨h, hc, .inr ⟨rfl, h3⟩⟩
theorem spread_arc {n : Net} {f : List Int} (hn : OkNet n) (hl : f.length = n.as.length) (turned : Bool) {k : Nat} (hk : k < n.as.length) (s : Int) : cut_spread_B2 n f turned k s = some (stepS n.as f turned s k) := by
  have hG := hn.arc hk
  have f0 := hG.f0; have t0 := hG.t0
  unfold cut_spread_B2 stepS ends
  simp only [bit_fold]
  have main : ∀ x y : Int, 0 ≤ x → 0 ≤ y → ((ck (k < f.length) <| if f.getD k (0 : Int) < (n.as.getD k El.d).c then ck (0 ≤ x) <| (if bit s x = 1 then ck (0 ≤ y) <| some (bitsOf .or .u16 s (IntKind.u16.wrap (1 * 2 ^ min y.toNat 16))) else some s) else some s : Option Int).bind fun x25 =>
      ck (k < f.length) <| if 0 < f.getD k (0 : Int) then ck (0 ≤ y) <| (if bit x25 y = 1 then ck (0 ≤ x) <| some (bitsOf .or .u16 x25 (IntKind.u16.wrap (1 * 2 ^ min x.toNat 16))) else some x25) else some x25) =
      some (halfS (decide (0 < f.getD k 0)) (halfS (decide (f.getD k 0 < (n.as.getD k El.d).c)) s x y) y x) := fun x y hx hy => by
    have half : ∀ (p : Prop) [Decidable p] (s x y : Int), 0 ≤ x → 0 ≤ y → (if p then ck (0 ≤ x) (if bit s x = 1 then ck (0 ≤ y) (some (bitsOf .or .u16 s (IntKind.u16.wrap (1 * 2 ^ min y.toNat 16)))) else some s) else some s) = some (halfS (decide p) s x y) := fun p _ s x y hx hy => by
      unfold halfS
      by_cases hp : p
      · rw [if_pos hp, ck_some hx, decide_eq_true hp]
        by_cases hb : bit s x = 1
        · rw [if_pos hb, ck_some hy, if_pos ⟨rfl, hb⟩]; rfl
        · rw [if_neg hb, if_neg (fun h => hb h.2)]
      · rw [if_neg hp, decide_eq_false hp, if_neg (fun h => Bool.noConfusion h.1)]
    rw [ck_some (by omega), half _ s x y hx hy, bind_some', ck_some (by omega), half _ _ y x hy hx]
  cases turned with
  | true => exact main _ _ t0 f0
  | false => exact main _ _ f0 t0
structure Spread (n : Net) (f : List Int) (at' : Int) (turned : Bool) (s : Int) : Prop where
  hi : Int.fdiv s (2 ^ n.n.toNat) = 0
  at_ : bit s at' = 1
  fw : ∀ k, k < n.as.length → f.getD k 0 < (n.as.getD k El.d).c → bit s (ends n.as turned k).1 = 1 → bit s (ends n.as turned k).2 = 1
  bw : ∀ k, k < n.as.length → 0 < f.getD k 0 → bit s (ends n.as turned k).2 = 1 → bit s (ends n.as turned k).1 = 1
  least : ∀ T : Int → Prop, T at' → (∀ k, k < n.as.length → f.getD k 0 < (n.as.getD k El.d).c → T (ends n.as turned k).1 → T (ends n.as turned k).2) → (∀ k, k < n.as.length → 0 < f.getD k 0 → T (ends n.as turned k).2 → T (ends n.as turned k).1) → ∀ x, 0 ≤ x → x < n.n → bit s x = 1 → T x
theorem ends_in {n : Net} (hn : OkNet n) (turned : Bool) {k : Nat} (hk : k < n.as.length) : (0 ≤ (ends n.as turned k).1 ∧ (ends n.as turned k).1 < n.n) ∧ 0 ≤ (ends n.as turned k).2 ∧ (ends n.as turned k).2 < n.n := by
  have hG := hn.arc hk
  have := hG.f0; have := hG.f1; have := hG.t0; have := hG.t1
  unfold ends
  split <;> dsimp only <;> omega
theorem spread_ok {n : Net} {f : List Int} (hn : OkNet n) (hl : f.length = n.as.length) {at' : Int} (h0 : 0 ≤ at') (h1 : at' < n.n) (turned : Bool) : ∃ s, cut_spread_F n f at' turned = some s ∧ Spread n f at' turned s := by
  have n1 := hn.g.n1; have n0 := hn.g.n0
  dsimp only at n0 n1
  have hin : ∀ k, k ∈ List.range n.as.length → (0 ≤ (ends n.as turned k).1 ∧ (ends n.as turned k).1 < n.n) ∧ 0 ≤ (ends n.as turned k).2 ∧ (ends n.as turned k).2 < n.n := fun k hk => ends_in hn turned (List.mem_range.1 hk)
  have hV : ∀ s k, k ∈ List.range n.as.length → Int.fdiv s (2 ^ n.n.toNat) = 0 → Int.fdiv (stepS n.as f turned s k) (2 ^ n.n.toNat) = 0 := fun s k hk hs => by
    have := hin k hk
    exact half_hi (by omega) (by omega) (half_hi (by omega) (by omega) hs)
  have hround : ∀ k s, Int.fdiv s (2 ^ n.n.toNat) = 0 → cut_spread_B1 n f turned k s = some ((List.range n.as.length).foldl (stepS n.as f turned) s) := fun k s hs => by
    unfold cut_spread_B1
    have := forN_list (f := cut_spread_B2 n f turned) (List.range n.as.length) 0 (stepS n.as f turned) (fun _ _ => True) (s := s) trivial fun j s hj _ => by
      have hj' : j < n.as.length := by simpa using hj
      have e : (List.range n.as.length).getD j 0 = j := by simp [List.getD_eq_getElem?_getD, hj']
      rw [e]
      exact ⟨spread_arc hn hl turned hj' s, trivial⟩
    rw [List.length_range] at this
    rw [this.1]; rfl
  have hfold : ∀ (M : List Nat), (∀ b, b ∈ M → b ∈ List.range n.as.length) → ∀ s, Int.fdiv s (2 ^ n.n.toNat) = 0 → Int.fdiv (M.foldl (stepS n.as f turned) s) (2 ^ n.n.toNat) = 0 := by
    intro M
    induction M with
    | nil => intro _ s h; exact h
    | cons b M ih => intro hM s h; exact ih (fun c hc => hM c (by simp [hc])) _ (hV s b (hM b (by simp)) h)
  have s0 : Int.fdiv (shl at') (2 ^ n.n.toNat) = 0 := shl_hi (by omega) h0 (by omega)
  obtain ⟨e1, hfin⟩ := forN_iter (f := cut_spread_B1 n f turned) (g := fun s => (List.range n.as.length).foldl (stepS n.as f turned) s) (fun s => Int.fdiv s (2 ^ n.n.toNat) = 0) (fun s hs => hfold _ (fun _ h => h) s hs) hround (n := n.n.toNat) (k := 0) s0
  have hiff : ∀ s k, k ∈ List.range n.as.length → ∀ x, 0 ≤ x → x < n.n → (bit (stepS n.as f turned s k) x = 1 ↔ bit s x = 1 ∨ (x = (ends n.as turned k).2 ∧ f.getD k 0 < (n.as.getD k El.d).c ∧ bit s (ends n.as turned k).1 = 1) ∨
      (x = (ends n.as turned k).1 ∧ 0 < f.getD k 0 ∧ (bit s (ends n.as turned k).2 = 1 ∨ (f.getD k 0 < (n.as.getD k El.d).c ∧ bit s (ends n.as turned k).1 = 1)))) := fun s k hk x hx hx2 => by
    have := hin k hk
    exact step_iff (by omega) (by omega) (by omega)
  have hrest := rest_fold (n := n.n) (List.range n.as.length) (stepS n.as f turned) (fun s x => bit s x = 1) (fun s => Int.fdiv s (2 ^ n.n.toNat) = 0) hV
    (fun s k hk hs x hx hx2 h => (hiff s k hk x hx hx2).2 (.inl h))
    (fun s s' k hk hs hs' h x hx hx2 => by
      have := hin k hk
      rw [hiff s k hk x hx hx2, hiff s' k hk x hx hx2, h x hx hx2, h _ this.1.1 this.1.2, h _ this.2.1 this.2.2]) s0
    ⟨at', h0, h1, (bit_shl (by omega) (by omega)).2 rfl⟩
  have hT : ∀ T : Int → Prop, T at' → (∀ k, k < n.as.length → f.getD k 0 < (n.as.getD k El.d).c → T (ends n.as turned k).1 → T (ends n.as turned k).2) → (∀ k, k < n.as.length → 0 < f.getD k 0 → T (ends n.as turned k).2 → T (ends n.as turned k).1) →
      ∀ m, ∀ x, 0 ≤ x → x < n.n → bit (iter (fun s => (List.range n.as.length).foldl (stepS n.as f turned) s) m (shl at')) x = 1 → T x := fun T t0 t1 t2 m => by
    have hf : ∀ (M : List Nat), (∀ b, b ∈ M → b ∈ List.range n.as.length) → ∀ s, (∀ x, 0 ≤ x → x < n.n → bit s x = 1 → T x) → ∀ x, 0 ≤ x → x < n.n → bit (M.foldl (stepS n.as f turned) s) x = 1 → T x := by
      intro M
      induction M with
      | nil => intro _ s h; exact h
      | cons b M ih =>
        intro hM s h
        refine ih (fun c hc => hM c (by simp [hc])) _ fun x hx hx2 hb => ?_
        have hbm := hM b (by simp)
        have hr := List.mem_range.1 hbm
        have hi := hin b hbm
        rcases (hiff s b hbm x hx hx2).1 hb with h1 | ⟨e, h1, h2⟩ | ⟨e, h1, h2 | ⟨h2, h3⟩⟩
        · exact h x hx hx2 h1
        · rw [e]; exact t1 b hr h1 (h _ hi.1.1 hi.1.2 h2)
        · rw [e]; exact t2 b hr h1 (h _ hi.2.1 hi.2.2 h2)
        · rw [e]; exact h _ hi.1.1 hi.1.2 h3
    induction m with
    | zero =>
      intro x hx hx2 hb
      have : x = at' := (bit_shl (by omega) (by omega)).1 hb
      rw [this]; exact t0
    | succ m ih => exact hf _ (fun _ h => h) _ ih
  have hat : ∀ m, bit (iter (fun s => (List.range n.as.length).foldl (stepS n.as f turned) s) m (shl at')) at' = 1 := fun m => by
    have hf : ∀ (M : List Nat), (∀ b, b ∈ M → b ∈ List.range n.as.length) → ∀ s, bit s at' = 1 → bit (M.foldl (stepS n.as f turned) s) at' = 1 := by
      intro M
      induction M with
      | nil => intro _ s h; exact h
      | cons b M ih => intro hM s h; exact ih (fun c hc => hM c (by simp [hc])) _ ((hiff s b (hM b (by simp)) at' h0 h1).2 (.inl h))
    induction m with
    | zero => exact (bit_shl (by omega) (by omega)).2 rfl
    | succ m ih => exact hf _ (fun _ h => h) _ ih
  unfold cut_spread_F
  rw [ck_some h0, ck_some (inI_small (by omega) (by omega))]
  have e2 : forN (cut_spread_B1 n f turned) n.n.toNat 0 (IntKind.u16.wrap (1 * 2 ^ min at'.toNat 16)) = _ := e1
  rw [e2, bind_some']
  refine ⟨_, rfl, hfin, hat _, fun k hk hc hb => ?_, fun k hk hc hb => ?_, fun T t0 t1 t2 => hT T t0 t1 t2 _⟩
  · obtain ⟨s, _, q1, q2⟩ := hrest k (List.mem_range.2 hk)
    have hi := hin k (List.mem_range.2 hk)
    exact q2 _ hi.2.1 hi.2.2 ((hiff s k (List.mem_range.2 hk) _ hi.2.1 hi.2.2).2 (.inr (.inl ⟨rfl, hc, (q1 _ hi.1.1 hi.1.2).2 hb⟩)))
  · obtain ⟨s, _, q1, q2⟩ := hrest k (List.mem_range.2 hk)
    have hi := hin k (List.mem_range.2 hk)
    exact q2 _ hi.1.1 hi.1.2 ((hiff s k (List.mem_range.2 hk) _ hi.1.1 hi.1.2).2 (.inr (.inr ⟨rfl, hc, .inl ((q1 _ hi.2.1 hi.2.2).2 hb)⟩)))
structure MinCut (n : Net) (v : Int) (S : Int → Int) : Prop where
  cut : Cut n S
  cap : capS n.as S = v
structure LeastS (n : Net) (v low : Int) : Prop where
  side : Side n low
  cap : capS n.as (bit low) = v
  least : ∀ S, MinCut n v S → ∀ x, 0 ≤ x → x < n.n → bit low x = 1 → S x = 1
theorem hi_min {n : Net} (hn : OkNet n) {s : Int} : Int.fdiv s (2 ^ min n.n.toNat 16) = 0 ↔ Int.fdiv s (2 ^ n.n.toNat) = 0 := by
  have n1 := hn.g.n1
  dsimp only at n1
  rw [Nat.min_eq_left (by omega)]
theorem Flow.minCut_tight {n : Net} {f : List Int} (hf : Flow n f) {v : Int} (hv : netAt n.as f n.s = v) {S : Int → Int} (hS : MinCut n v S) : Tight n f S := hf.tight hS.cut (hv.trans hS.cap.symm)
theorem least_ok {n : Net} (hn : OkNet n) : ∃ low v, cut_Least_F n = some (low, v, 0) ∧ LeastS n v low ∧ MaxV n v := by
  obtain ⟨f, v, e, hf, hv, S, hS, hT⟩ := of_ok hn
  have n1 := hn.g.n1; have n0 := hn.g.n0; have s0 := hn.s0; have s1 := hn.s1; have t0 := hn.t0; have t1 := hn.t1
  dsimp only at n0 n1
  obtain ⟨s, es, hs⟩ := spread_ok hn hf.len s0 s1 false
  unfold cut_Least_F
  rw [e, bind_some']
  dsimp only
  rw [if_neg (by decide), es, bind_some']
  have lst : ∀ S, Cut n S → Tight n f S → ∀ x, 0 ≤ x → x < n.n → bit s x = 1 → S x = 1 := fun S hS hT => hs.least (fun x => S x = 1) hS.s (fun k hk hc h => (hS.b _).resolve_left fun h0 => by have := hT.out k hk h h0; omega) (fun k hk hc h => (hS.b _).resolve_left fun h0 => by have := hT.inn k hk h0 h; omega)
  have hside : Side n s := ⟨hn, (hi_min hn).2 hs.hi, hs.at_, (bit01 s n.t).resolve_right fun h => by
    have := lst S hS hT n.t t0 t1 h
    have := hS.t
    omega⟩
  have hts : Tight n f (bit s) := ⟨fun k hk h1 h2 => by
    have hr := hf.r k (by rw [hf.len]; exact hk)
    refine Classical.byContradiction fun hne => ?_
    have h3 : bit s (n.as.getD k El.d).t = 1 := hs.fw k hk (by omega) h1
    omega, fun k hk h1 h2 => by
    have hr := hf.r k (by rw [hf.len]; exact hk)
    refine Classical.byContradiction fun hne => ?_
    have h3 : bit s (n.as.getD k El.d).f = 1 := hs.bw k hk (by omega) h2
    omega⟩
  exact ⟨s, v, rfl, ⟨hside, by rw [← hv]; exact (hf.eq_cut hside.cut hts).symm, fun S' hS' => lst S' hS'.cut (hf.minCut_tight hv hS')⟩, ⟨f, hf, hv⟩, S, hS, by rw [← hv]; exact (hf.eq_cut hS hT).symm⟩
end Go.Proofs.Ytkfmphlnpmemdaa
