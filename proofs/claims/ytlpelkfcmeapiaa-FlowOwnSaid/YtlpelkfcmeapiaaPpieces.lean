/- Package flow: piece finds a way or a round where something is left; Split takes all apart. -/
import Derived.Test.YtlpelkfcmeapiaaPmore
namespace Go.Proofs.Ytlpelkfcmeapiaa
open Go Go.Proofs.Ytlpelkfcmeapiaa.Sx
set_option linter.unusedVariables false
set_option linter.unusedSimpArgs false
theorem mget_mset (es : List (Int × Int)) (k v z : Int) : mget (mset es k v) z = if z = k then some v else mget es z := by
  induction es with
  | nil => simp [mset, mget]
  | cons p es ih =>
    obtain ⟨a, b⟩ := p
    unfold mset
    by_cases c : k = a
    · rw [if_pos c]
      unfold mget
      by_cases c2 : z = a
      · rw [if_pos c2, if_pos (by omega)]
      · rw [if_neg c2, if_neg (by omega), if_neg c2]
    · rw [if_neg c]
      unfold mget
      by_cases c2 : z = a
      · rw [if_pos c2, if_pos c2, if_neg (by omega)]
      · rw [if_neg c2, if_neg c2]
        exact ih
theorem cloneInts_eq {l : List Int} (h : l.length ≤ 1000000000) : slices_Clone_int_F l = some l := by
  unfold slices_Clone_int_F
  rw [ck_some (by omega)]; rfl
/-- arc number i of a list of numbers -/
def arcI (L : List Arc) (arcs : List Int) (i : Nat) : Arc := L.getD (arcs.getD i 0).toNat El.d
/-- arcs one behind the other, from a to b, none twice -/
structure Chain (L : List Arc) (arcs : List Int) (a b : Int) : Prop where
  rg : ∀ i, i < arcs.length → 0 ≤ arcs.getD i 0 ∧ arcs.getD i 0 < (L.length : Int)
  nd : ∃ nd : Nat → Int, nd 0 = a ∧ nd arcs.length = b ∧ ∀ i, i < arcs.length → (arcI L arcs i).f = nd i ∧ (arcI L arcs i).t = nd (i + 1)
  inj : ∀ i j, i < arcs.length → j < arcs.length → arcs.getD i 0 = arcs.getD j 0 → i = j
def inA (arcs : List Int) (k : Nat) : Int := if (k : Int) ∈ arcs then 1 else 0
/-- a piece that can be taken off -/
structure Fits (L : List Arc) (left : List Int) (p : Piece) (a b : Int) : Prop where
  ch : Chain L p.arcs a b
  len : 1 ≤ p.arcs.length
  a1 : 1 ≤ p.amount
  a2 : p.amount ≤ 10000
  le : ∀ i, i < p.arcs.length → p.amount ≤ left.getD (p.arcs.getD i 0).toNat 0
theorem take_ok {L : List Arc} {left : List Int} {p : Piece} {a b : Int} (hl : left.length = L.length) (hr : ∀ k, k < L.length → 0 ≤ left.getD k 0 ∧ left.getD k 0 ≤ 10000) (h : Fits L left p a b) :
    ∃ left', flow_take_F left p = some left' ∧ left'.length = L.length ∧ (∀ k, k < L.length → left'.getD k 0 = left.getD k 0 - p.amount * inA p.arcs k) ∧ ∀ z, netAt L left' z = netAt L left z - p.amount * ((if a = z then 1 else 0) - (if b = z then 1 else 0)) := by
  obtain ⟨nd, n0, n1, hnd⟩ := h.ch.nd
  have ha1 := h.a1; have ha2 := h.a2
  obtain ⟨left', e, i1, i2, i3, i4⟩ := forN_inv (f := flow_take_B1 p) (fun j (l : List Int) => l.length = L.length ∧ (∀ k, k < L.length → (∀ i, i < j → p.arcs.getD i 0 ≠ (k : Int)) → l.getD k 0 = left.getD k 0) ∧ (∀ i, i < j → l.getD (p.arcs.getD i 0).toNat 0 = left.getD (p.arcs.getD i 0).toNat 0 - p.amount) ∧ ∀ z, netAt L l z = netAt L left z - p.amount * ((if a = z then 1 else 0) - (if nd j = z then 1 else 0))) (n := p.arcs.length) (k := 0) (s := left) ⟨hl, fun k hk _ => rfl, fun i hi => absurd hi (by omega), fun z => by rw [n0, Int.sub_self, Int.mul_zero, Int.sub_zero]⟩ fun j l _ hj ⟨i1, i2, i3, i4⟩ => by
    have hj' : j < p.arcs.length := by omega
    have hrg := h.ch.rg j hj'
    have hle := h.le j hj'
    have hk : (p.arcs.getD j 0).toNat < L.length := by omega
    have hkk : (((p.arcs.getD j 0).toNat : Nat) : Int) = p.arcs.getD j 0 := by omega
    have hold := i2 (p.arcs.getD j 0).toNat hk fun i hi e => by
      have := h.ch.inj i j (by omega) hj' (by rw [e, hkk])
      omega
    have hr' := hr _ hk
    unfold flow_take_B1
    rw [ck_some (by omega), ck_some (inI_small (by omega) (by omega))]
    refine ⟨_, rfl, by simpa using i1, fun k hk2 hi => ?_, fun i hi => ?_, fun z => ?_⟩
    · rw [getD_set', if_neg (fun q => hi j (by omega) (by omega))]
      exact i2 k hk2 fun i hi' => hi i (by omega)
    · rw [getD_set']
      by_cases e : i = j
      · subst e
        rw [if_pos ⟨rfl, by omega⟩, hold]
      · have hri := h.ch.rg i (by omega)
        rw [if_neg (fun q => e (h.ch.inj i j (by omega) hj' (by omega)))]
        exact i3 i (by omega)
    · obtain ⟨f1, f2⟩ := hnd j hj'
      unfold arcI at f1 f2
      rw [netAt_set hk i1, i4 z, f1, f2, show l.getD (p.arcs.getD j 0).toNat 0 - p.amount - l.getD (p.arcs.getD j 0).toNat 0 = -p.amount by omega, Int.neg_mul, Int.mul_sub, Int.mul_sub, Int.mul_sub]
      omega
  rw [Nat.zero_add] at i2 i3 i4
  refine ⟨left', ?_, i1, fun k hk => ?_, fun z => by rw [i4 z, n1]⟩
  · unfold flow_take_F
    rw [e, bind_some']
  · unfold inA
    by_cases c : (k : Int) ∈ p.arcs
    · obtain ⟨i, hi, e⟩ := getD_of_mem (d := 0) c
      rw [if_pos c, Int.mul_one]
      have := i3 i hi
      rw [e, Int.toNat_natCast] at this
      exact this
    · rw [if_neg c, Int.mul_zero, Int.sub_zero]
      exact i2 k hk fun i hi e => c (by rw [← e]; exact mem_getD hi)
theorem amount_ok {L : List Arc} {left arcs : List Int} {a b : Int} (hl : left.length = L.length) (hr : ∀ k, k < L.length → 0 ≤ left.getD k 0 ∧ left.getD k 0 ≤ 10000) (hc : Chain L arcs a b) (hlen : 1 ≤ arcs.length) (hlen2 : arcs.length ≤ 1000) (hpos : ∀ i, i < arcs.length → 0 < left.getD (arcs.getD i 0).toNat 0) :
    ∃ x, flow_amount_F left arcs = some ⟨x, arcs⟩ ∧ Fits L left ⟨x, arcs⟩ a b := by
  have r0 := hc.rg 0 (by omega)
  have p0 := hpos 0 (by omega)
  have b0 := hr (arcs.getD 0 0).toNat (by omega)
  obtain ⟨x, e, h1, h2, h3⟩ := forN_inv (f := flow_amount_B1 left arcs) (fun j (x : Int) => 1 ≤ x ∧ x ≤ 10000 ∧ ∀ i, i < j → x ≤ left.getD (arcs.getD i 0).toNat 0) (n := arcs.length) (k := 0) (s := left.getD (arcs.getD 0 0).toNat 0) ⟨by omega, by omega, fun i hi => absurd hi (by omega)⟩ fun j x _ hj ⟨i1, i2, i3⟩ => by
    have rj := hc.rg j (by omega)
    have pj := hpos j (by omega)
    unfold flow_amount_B1
    rw [ck_some (by omega)]
    refine ⟨_, rfl, by omega, by omega, fun i hi => ?_⟩
    by_cases e : i = j
    · subst e; omega
    · have := i3 i (by omega); omega
  refine ⟨x, ?_, hc, hlen, h1, h2, fun i hi => h3 i (by dsimp only at hi; omega)⟩
  unfold flow_amount_F
  rw [ck_some (by omega), ck_some (by omega), cloneInts_eq (by omega), bind_some', e, bind_some']
/-- where something comes in, something goes out -/
theorem out_of_in {L : List Arc} {left : List Int} (hr : ∀ k, k < L.length → 0 ≤ left.getD k 0 ∧ left.getD k 0 ≤ 10000) {x : Int} (hx : 0 ≤ netAt L left x) {k : Nat} (hk : k < L.length) (ht : (L.getD k El.d).t = x) (hp : 0 < left.getD k 0) : ∃ j, j < L.length ∧ (L.getD j El.d).f = x ∧ 0 < left.getD j 0 := by
  refine Classical.byContradiction fun c => ?_
  have hno : ∀ j, j < L.length → (L.getD j El.d).f = x → left.getD j 0 = 0 := fun j hj hf => by
    have := hr j hj
    refine Classical.byContradiction fun z => c ⟨j, hj, hf, by omega⟩
  have h1 : netAt L left x ≤ tot (fun j => if j = k then -left.getD k 0 else 0) L.length := tot_le fun j hj => by
    have := hr j hj
    unfold term
    by_cases e : j = k
    · subst e
      rw [if_pos rfl, if_pos ht]
      split
      · rename_i q; have := hno j hj q; omega
      · omega
    · rw [if_neg e]
      split
      · rename_i q
        have := hno j hj q
        split <;> omega
      · split <;> omega
  rw [tot_single hk fun i _ hi => if_neg hi, if_pos rfl] at h1
  omega
/-- the next arc -/
theorem next_ok {N : Net} {left : List Int} (hl : left.length = N.as.length) (hr : ∀ k, k < N.as.length → 0 ≤ left.getD k 0 ∧ left.getD k 0 ≤ 10000) (hm : N.as.length ≤ 60) {x : Int} (hout : ∃ j, j < N.as.length ∧ (N.as.getD j El.d).f = x ∧ 0 < left.getD j 0) :
    ∃ (k0 k : Nat), slices_IndexFunc_Arc_flow_piece_c1_F N.as x = some (k0 : Int) ∧ loopC (flow_piece_B2 N left x) 1000000 (k0 : Int) = some (.go (k : Int)) ∧ k < N.as.length ∧ (N.as.getD k El.d).f = x ∧ 0 < left.getD k 0 := by
  obtain ⟨w, hw, hf, hp⟩ := hout
  have hidx : ∃ k0 : Nat, slices_IndexFunc_Arc_flow_piece_c1_F N.as x = some (k0 : Int) ∧ k0 ≤ w := by
    obtain ⟨q, e, k0, rfl, h⟩ := forC_or (f := slices_IndexFunc_Arc_flow_piece_c1_B1 N.as x) (fun j _ => j ≤ w) (fun q : Ex Unit Int => ∃ k0 : Nat, q = .ret (k0 : Int) ∧ k0 ≤ w) (n := N.as.length) (k := 0) (s := ()) (by omega) (fun j s _ hj hI => by
      unfold slices_IndexFunc_Arc_flow_piece_c1_B1 flow_piece_c1_F
      rw [bind_some']
      by_cases c : (N.as.getD j El.d).f = x
      · rw [decide_eq_true c, if_pos rfl]
        exact .inr (.inr ⟨_, rfl, j, rfl, hI⟩)
      · rw [decide_eq_false c, if_neg (by decide)]
        have hne : j ≠ w := fun z => c (by rw [z]; exact hf)
        exact .inl ⟨(), rfl, by omega⟩) (fun s hI => by omega)
    refine ⟨k0, ?_, h⟩
    unfold slices_IndexFunc_Arc_flow_piece_c1_F
    rw [e, bind_some']
  obtain ⟨k0, e0, hk0⟩ := hidx
  obtain ⟨q, e, k, rfl, h1, h2, h3⟩ := loopC_or (f := flow_piece_B2 N left x) (fun (t : Int) => ∃ j : Nat, t = (j : Int) ∧ j ≤ w) (fun q => ∃ k : Nat, q = .go (k : Int) ∧ k < N.as.length ∧ (N.as.getD k El.d).f = x ∧ 0 < left.getD k 0) (fun t => w - t.toNat) (fun t ⟨j, e, hj⟩ => by
    subst e
    unfold flow_piece_B2
    rw [ck_some (by omega), Int.toNat_natCast]
    by_cases c : left.getD j 0 = 0
    · rw [if_pos c, bind_some']
      dsimp only
      have hne : j ≠ w := fun z => by rw [z] at c; omega
      rw [ck_some (inI_small (by omega) (by omega))]
      exact .inl ⟨_, rfl, ⟨j + 1, by omega, by omega⟩, by omega⟩
    · rw [if_neg c, ck_some (by omega)]
      by_cases c2 : (N.as.getD j El.d).f ≠ x
      · rw [if_pos c2, bind_some']
        dsimp only
        have hne : j ≠ w := fun z => c2 (by rw [z]; exact hf)
        rw [ck_some (inI_small (by omega) (by omega))]
        exact .inl ⟨_, rfl, ⟨j + 1, by omega, by omega⟩, by omega⟩
      · rw [if_neg c2, bind_some']
        have c2' : (N.as.getD j El.d).f = x := Classical.byContradiction c2
        have := hr j (by omega)
        exact .inr (.inl ⟨_, rfl, j, rfl, by omega, c2', by omega⟩)) (n := 1000000) (s := (k0 : Int)) ⟨k0, rfl, hk0⟩ (by omega)
  exact ⟨k0, k, e0, e, h1, h2, h3⟩
theorem snoc_getD {l : List Int} {a : Int} {i : Nat} : (l ++ [a]).getD i 0 = if i < l.length then l.getD i 0 else if i = l.length then a else 0 := by
  simp only [List.getD_eq_getElem?_getD, List.getElem?_append]
  split
  · rfl
  · split
    · rename_i h; subst h; simp
    · rename_i h1 h2; rw [List.getElem?_eq_none (by simp; omega)]; rfl
/-- part of a walk over what is left -/
structure WalkI (N : Net) (left : List Int) (a : Int) (nd : Nat → Int) (x : Int) (l : List Int) (mm : List (Int × Int)) : Prop where
  z : nd 0 = a
  e : nd l.length = x
  st : ∀ i, i < l.length → 0 ≤ l.getD i 0 ∧ l.getD i 0 < (N.as.length : Int) ∧ (arcI N.as l i).f = nd i ∧ (arcI N.as l i).t = nd (i + 1) ∧ 0 < left.getD (l.getD i 0).toNat 0
  rg : ∀ i, i ≤ l.length → 0 ≤ nd i ∧ nd i < 12 ∧ mget mm (nd i) = some (i : Int)
  at_ : ∀ z i, mget mm z = some i → 0 ≤ i ∧ i ≤ (l.length : Int) ∧ nd i.toNat = z
  out : x ≠ N.t → ∃ j, j < N.as.length ∧ (N.as.getD j El.d).f = x ∧ 0 < left.getD j 0
theorem WalkI.inj {N : Net} {left : List Int} {a : Int} {nd : Nat → Int} {x : Int} {l : List Int} {mm : List (Int × Int)} (h : WalkI N left a nd x l mm) {i j : Nat} (hi : i ≤ l.length) (hj : j ≤ l.length) (e : nd i = nd j) : i = j := by
  have a1 := (h.rg i hi).2.2
  have a2 := (h.rg j hj).2.2
  rw [e, a2] at a1
  injection a1 with a1
  omega
theorem WalkI.short {N : Net} {left : List Int} {a : Int} {nd : Nat → Int} {x : Int} {l : List Int} {mm : List (Int × Int)} (h : WalkI N left a nd x l mm) : l.length < 12 := by
  have key : ∀ j, j ≤ l.length + 1 → j ≤ cnt (fun y => decide (∃ i, i < j ∧ nd i = (y : Int))) 12 := fun j => by
    induction j with
    | zero => intro _; exact Nat.zero_le _
    | succ j ih =>
      intro hj
      have hrg := h.rg j (by omega)
      have := cnt_lt (S := fun y => decide (∃ i, i < j ∧ nd i = (y : Int))) (T := fun y => decide (∃ i, i < j + 1 ∧ nd i = (y : Int))) (n := 12) (y := (nd j).toNat) (fun y _ hy => by
        simp only [decide_eq_true_eq] at hy ⊢
        obtain ⟨i, hi, ei⟩ := hy
        exact ⟨i, by omega, ei⟩) (by omega) (by simp only [decide_eq_true_eq]; exact ⟨j, by omega, by omega⟩) (by
        simp only [decide_eq_false_iff_not]
        rintro ⟨i, hi, ei⟩
        have := h.inj (i := i) (j := j) (by omega) (by omega) (by omega)
        omega)
      have := ih (by omega)
      omega
  have h1 := key (l.length + 1) (Nat.le_refl _)
  have h2 := cnt_le (fun y => decide (∃ i, i < l.length + 1 ∧ nd i = (y : Int))) 12
  omega
theorem WalkI.chain {N : Net} {left : List Int} {a : Int} {nd : Nat → Int} {x : Int} {l : List Int} {mm : List (Int × Int)} (h : WalkI N left a nd x l mm) : Chain N.as l a x :=
  ⟨fun i hi => ⟨(h.st i hi).1, (h.st i hi).2.1⟩, ⟨nd, h.z, h.e, fun i hi => ⟨(h.st i hi).2.2.1, (h.st i hi).2.2.2.1⟩⟩, fun i j hi hj e => by
    have a1 := (h.st i hi).2.2.1
    have a2 := (h.st j hj).2.2.1
    unfold arcI at a1 a2
    rw [e, a2] at a1
    exact h.inj (by omega) (by omega) a1.symm⟩
/-- what piece asks for -/
structure Going (N : Net) (left : List Int) : Prop where
  len : left.length = N.as.length
  m60 : N.as.length ≤ 60
  r : ∀ k, k < N.as.length → 0 ≤ left.getD k 0 ∧ left.getD k 0 ≤ 10000
  arc : ∀ k, k < N.as.length → 0 ≤ (N.as.getD k El.d).f ∧ (N.as.getD k El.d).f < 12 ∧ 0 ≤ (N.as.getD k El.d).t ∧ (N.as.getD k El.d).t < 12
  bal : ∀ z, z ≠ N.t → 0 ≤ netAt N.as left z
theorem piece_ok {N : Net} {left : List Int} (hg : Going N left) {a : Int} (ha : a ≠ N.t) (hout : ∃ j, j < N.as.length ∧ (N.as.getD j El.d).f = a ∧ 0 < left.getD j 0) :
    ∃ p r, flow_piece_F N left a = some (p, r) ∧ ((r = false ∧ Fits N.as left p a N.t) ∨ (r = true ∧ ∃ b, Fits N.as left p b b)) := by
  have hl := hg.len; have m60 := hg.m60
  have ha12 : 0 ≤ a ∧ a < 12 := by
    obtain ⟨j, hj, e, _⟩ := hout
    have := hg.arc j hj
    omega
  obtain ⟨q, e, h⟩ := loopC_or (f := flow_piece_B1 N left) (fun (τ : Int × List Int × List (Int × Int)) => ∃ nd, WalkI N left a nd τ.1 τ.2.1 τ.2.2) (fun q => (∃ nd l mm, q = .go (N.t, l, mm) ∧ WalkI N left a nd N.t l mm) ∨ ∃ p b, q = .ret (p, true) ∧ Fits N.as left p b b) (fun τ => 12 - cnt (fun z => (mget τ.2.2 (z : Int)).isSome) 12) (fun τ ⟨nd, h⟩ => by
    obtain ⟨x, l, mm⟩ := τ
    dsimp only at h
    unfold flow_piece_B1
    dsimp only
    by_cases c : x = N.t
    · rw [if_neg (fun z => z c)]
      subst c
      exact .inr (.inl ⟨_, rfl, .inl ⟨nd, l, mm, rfl, h⟩⟩)
    · rw [if_pos c]
      obtain ⟨k0, k, e1, e2, hk, hf, hp⟩ := next_ok hl hg.r m60 (h.out c)
      have hlen := h.short
      have hA := hg.arc k hk
      rw [e1, bind_some', e2, bind_some']
      dsimp only
      rw [ck_some (by omega), ck_some (by omega), Int.toNat_natCast]
      -- the arcs with the new one
      have st' : ∀ i, i < l.length + 1 → 0 ≤ (l ++ [(k : Int)]).getD i 0 ∧ (l ++ [(k : Int)]).getD i 0 < (N.as.length : Int) ∧ (arcI N.as (l ++ [(k : Int)]) i).f = nd i ∧ (arcI N.as (l ++ [(k : Int)]) i).t = (if i + 1 ≤ l.length then nd (i + 1) else (N.as.getD k El.d).t) ∧ 0 < left.getD ((l ++ [(k : Int)]).getD i 0).toNat 0 := fun i hi => by
        unfold arcI
        rw [snoc_getD]
        by_cases ei : i < l.length
        · rw [if_pos ei, if_pos (by omega)]
          exact h.st i ei
        · rw [if_neg ei, if_pos (by omega), if_neg (by omega), Int.toNat_natCast, show i = l.length by omega, h.e]
          exact ⟨by omega, by omega, hf, rfl, hp⟩
      cases hmg : mget mm (N.as.getD k El.d).t with
      | some pos =>
        obtain ⟨q0, q1, q2⟩ := h.at_ _ _ hmg
        rw [if_pos (show (some pos).isSome = true from rfl)]
        simp only [Option.getD_some]
        rw [ck_some q0, ck_some (by omega)]
        obtain ⟨i0, rfl⟩ : ∃ i0 : Nat, pos = (i0 : Int) := ⟨pos.toNat, by omega⟩
        rw [Int.toNat_natCast] at q2 ⊢
        have hsl : (subl (l ++ [(k : Int)]) i0 (l.length + 1 - i0)).length = l.length + 1 - i0 := subl_len (by simp; omega)
        have hget : ∀ i, i < l.length + 1 - i0 → (subl (l ++ [(k : Int)]) i0 (l.length + 1 - i0)).getD i 0 = (l ++ [(k : Int)]).getD (i + i0) 0 := fun i hi => subl_getD (xs := l ++ [(k : Int)]) hi
        have hch : Chain N.as (subl (l ++ [(k : Int)]) i0 (l.length + 1 - i0)) (N.as.getD k El.d).t (N.as.getD k El.d).t := by
          refine ⟨fun i hi => ?_, ⟨fun i => if i + i0 ≤ l.length then nd (i + i0) else (N.as.getD k El.d).t, ?_, ?_, fun i hi => ?_⟩, fun i j hi hj ee => ?_⟩
          · rw [hsl] at hi
            rw [hget i hi]
            have := st' (i + i0) (by omega)
            exact ⟨this.1, this.2.1⟩
          · dsimp only
            rw [if_pos (by omega), Nat.zero_add]; exact q2
          · rw [hsl]
            dsimp only
            rw [if_neg (by omega)]
          · rw [hsl] at hi
            have := st' (i + i0) (by omega)
            unfold arcI at this ⊢
            dsimp only
            rw [hget i hi, if_pos (by omega), show i + 1 + i0 = i + i0 + 1 by omega]
            exact ⟨this.2.2.1, this.2.2.2.1⟩
          · rw [hsl] at hi hj
            rw [hget i hi, hget j hj] at ee
            have a1 := (st' (i + i0) (by omega)).2.2.1
            have a2 := (st' (j + i0) (by omega)).2.2.1
            unfold arcI at a1 a2
            rw [ee, a2] at a1
            have := h.inj (i := j + i0) (j := i + i0) (by omega) (by omega) a1
            omega
        obtain ⟨y, ey, hfit⟩ := amount_ok hl hg.r hch (by omega) (by omega) (fun i hi => by
          rw [hsl] at hi
          rw [hget i hi]
          exact (st' (i + i0) (by omega)).2.2.2.2)
        rw [ey, bind_some']
        exact .inr (.inr ⟨_, rfl, .inr ⟨_, _, rfl, hfit⟩⟩)
      | none =>
        rw [if_neg (show ¬ ((none : Option Int).isSome = true) from by decide)]
        have hnew : ∀ i, i ≤ l.length → nd i ≠ (N.as.getD k El.d).t := fun i hi z => by
          have := (h.rg i hi).2.2
          rw [z, hmg] at this
          cases this
        have hW : WalkI N left a (fun i => if i ≤ l.length then nd i else (N.as.getD k El.d).t) (N.as.getD k El.d).t (l ++ [(k : Int)]) (mset mm (N.as.getD k El.d).t (((l.length + 1 : Nat) : Int))) := by
          refine ⟨by rw [if_pos (Nat.zero_le _)]; exact h.z, by rw [if_neg (by simp)], fun i hi => ?_, fun i hi => ?_, fun z i hz => ?_, fun c2 => out_of_in hg.r (hg.bal _ c2) hk rfl hp⟩
          · simp only [List.length_append, List.length_cons, List.length_nil] at hi
            obtain ⟨s1, s2, s3, s4, s5⟩ := st' i (by omega)
            rw [if_pos (by omega)]
            exact ⟨s1, s2, s3, s4, s5⟩
          · simp only [List.length_append, List.length_cons, List.length_nil] at hi
            rw [mget_mset]
            by_cases ei : i ≤ l.length
            · rw [if_pos ei, if_neg (hnew i ei)]
              exact h.rg i ei
            · rw [if_neg ei, if_pos rfl]
              exact ⟨by omega, by omega, by congr 1; omega⟩
          · rw [mget_mset] at hz
            simp only [List.length_append, List.length_cons, List.length_nil]
            by_cases ez : z = (N.as.getD k El.d).t
            · rw [if_pos ez] at hz
              injection hz with hz
              subst hz
              rw [Int.toNat_natCast, if_neg (by omega)]
              exact ⟨by omega, by omega, ez.symm⟩
            · rw [if_neg ez] at hz
              obtain ⟨w0, w1, w2⟩ := h.at_ z i hz
              rw [if_pos (by omega)]
              exact ⟨w0, by omega, w2⟩
        refine .inl ⟨_, rfl, ⟨_, hW⟩, ?_⟩
        dsimp only
        have hc := cnt_lt (S := fun z => (mget mm (z : Int)).isSome) (T := fun z => (mget (mset mm (N.as.getD k El.d).t ((l.length + 1 : Nat) : Int)) (z : Int)).isSome) (n := 12) (y := (N.as.getD k El.d).t.toNat) (fun z _ hz => by
          rw [mget_mset]
          split
          · rfl
          · exact hz) (by omega) (by rw [mget_mset, if_pos (by omega)]; rfl) (by rw [show (((N.as.getD k El.d).t.toNat : Nat) : Int) = (N.as.getD k El.d).t by omega, hmg]; rfl)
        have := cnt_le (fun z => (mget (mset mm (N.as.getD k El.d).t ((l.length + 1 : Nat) : Int)) (z : Int)).isSome) 12
        omega) (n := 1000000) (s := (a, [], mset [] a 0)) ⟨fun _ => a, rfl, rfl, fun i hi => absurd hi (by simp), fun i hi => by
      obtain rfl : i = 0 := by simpa using hi
      exact ⟨ha12.1, ha12.2, by simp [mset, mget]⟩, (fun z i hz => by
      simp only [mset, mget] at hz
      by_cases ez : z = a
      · rw [if_pos ez] at hz
        injection hz with hz
        subst hz
        exact ⟨by omega, by simp, ez.symm⟩
      · rw [if_neg ez] at hz; cases hz), fun _ => hout⟩ (by dsimp only; omega)
  unfold flow_piece_F
  rw [e, bind_some']
  rcases h with ⟨nd, l, mm, rfl, h⟩ | ⟨p, b, rfl, h⟩
  · dsimp only
    have hne : 1 ≤ l.length := by
      rcases Nat.eq_zero_or_pos l.length with z | z
      · have h1 := h.z; have h2 := h.e
        rw [z] at h2
        exact absurd (h1.symm.trans h2) ha
      · exact z
    have hl12 := h.short
    obtain ⟨y, ey, hfit⟩ := amount_ok hl hg.r h.chain hne (by omega) (fun i hi => (h.st i hi).2.2.2.2)
    rw [ey, bind_some']
    exact ⟨_, _, rfl, .inl ⟨rfl, hfit⟩⟩
  · exact ⟨p, true, rfl, .inr ⟨rfl, b, h⟩⟩
end Go.Proofs.Ytlpelkfcmeapiaa
