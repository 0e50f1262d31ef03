/- Package degree: Make: what it makes. (These laws stood in LDegreeSums first.) -/
import Derived.Test.YtlpelkfcmeapiaaPdeg
import Derived.Test.YtlpelkfcmeapiaaPsortDegree
import Derived.Test.YtlpelkfcmeapiaaGdegree
namespace Go.Proofs.Ytlpelkfcmeapiaa
open Go Go.Proofs.Ytlpelkfcmeapiaa.Sx
set_option linter.unusedVariables false
set_option linter.unusedSimpArgs false
/-- the order: who wants most first; of the same, the first -/
def keyD (left : List Int) (x : Int) : Int := x - 1000 * left.getD x.toNat 0
def ValD (left : List Int) (x : Int) : Prop := 0 ≤ x ∧ x < left.length ∧ x < 1000
theorem lessD {left : List Int} (x y : Int) (hx : ValD left x) (hy : ValD left y) : ∃ r, degree_Make_c1_F x y left = some r ∧ (r < 0 ↔ keyD left x < keyD left y) := by
  obtain ⟨x0, x1, x2⟩ := hx
  obtain ⟨y0, y1, y2⟩ := hy
  unfold degree_Make_c1_F keyD
  rw [ck_some (by omega), ck_some (by omega), cmpC_eq, bind_some', cmpC_eq, bind_some', orC_eq, bind_some']
  refine ⟨_, rfl, ?_⟩
  generalize left.getD x.toNat 0 = a
  generalize left.getD y.toNat 0 = b
  repeat' split
  all_goals omega
theorem others_ok {l : List Int} (hl : l.length ≤ 12) {k : Nat} (hk : k < l.length) : ∃ o x, loopC (degree_Make_B2 l) 1000000 ([], k + 1) = some (.go (o, x)) ∧ o.length = l.length - (k + 1) ∧ ∀ p, p < o.length → o.getD p 0 = ((k + 1 + p : Nat) : Int) := by
  obtain ⟨q, e, ⟨o, x⟩, rfl, hq⟩ := loopC_or (f := degree_Make_B2 l) (fun σ => k + 1 ≤ σ.2 ∧ σ.2 ≤ l.length ∧ σ.1.length = σ.2 - (k + 1) ∧ ∀ p, p < σ.1.length → σ.1.getD p 0 = ((k + 1 + p : Nat) : Int)) (fun q => ∃ σ, q = .go σ ∧ σ.1.length = l.length - (k + 1) ∧ ∀ p, p < σ.1.length → σ.1.getD p 0 = ((k + 1 + p : Nat) : Int)) (fun σ => l.length - σ.2) (fun σ ⟨i1, i2, i3, i4⟩ => by
    obtain ⟨o, x⟩ := σ
    dsimp only at i1 i2 i3 i4
    unfold degree_Make_B2
    dsimp only
    by_cases c : ((x : Nat) : Int) < ((l.length : Nat) : Int)
    · rw [if_pos c, ck_some (by omega), ck_some (inI_small (by omega) (by omega))]
      refine .inl ⟨_, rfl, ⟨by show k + 1 ≤ x + 1; omega, by show x + 1 ≤ l.length; omega, by simp; omega, fun p hp => ?_⟩, by show l.length - (x + 1) < l.length - x; omega⟩
      dsimp only at hp ⊢
      simp only [List.length_append, List.length_cons, List.length_nil] at hp
      by_cases z : p = o.length
      · rw [List.getD_eq_getElem?_getD, List.getElem?_append_right (by omega), z]
        simp; omega
      · rw [List.getD_eq_getElem?_getD, List.getElem?_append_left (by omega), ← List.getD_eq_getElem?_getD]; exact i4 p (by omega)
    · rw [if_neg c]
      exact .inr (.inl ⟨_, rfl, _, rfl, by show o.length = _; omega, i4⟩)) (n := 1000000) (s := ([], k + 1)) ⟨Nat.le_refl _, by show k + 1 ≤ l.length; omega, by simp, fun p hp => absurd hp (by simp)⟩ (by show l.length - (k + 1) < _; omega)
  exact ⟨o, x, e, hq⟩
/-- how often x stands among the first D -/
def topD (o : List Int) (D x : Nat) : Int := tot (fun p => if o.getD p 0 = (x : Int) then 1 else 0) D
theorem topD01 {o : List Int} (h : InjL o) (x : Nat) : ∀ D, D ≤ o.length → topD o D x = 0 ∨ topD o D x = 1 ∧ ∃ p, p < D ∧ o.getD p 0 = (x : Int)
  | 0, _ => .inl rfl
  | D + 1, hD => by
    have e : topD o (D + 1) x = topD o D x + if o.getD D 0 = (x : Int) then 1 else 0 := rfl
    rcases topD01 h x D (by omega) with q | ⟨q, p, hp, hpx⟩
    · by_cases c : o.getD D 0 = (x : Int)
      · rw [if_pos c] at e; exact .inr ⟨by omega, D, by omega, c⟩
      · rw [if_neg c] at e; exact .inl (by omega)
    · rw [if_neg (fun c => by have := h p D (by omega) (by omega) (by rw [hpx, c]); omega)] at e
      exact .inr ⟨by omega, p, by omega, hpx⟩
theorem topD_pos {o : List Int} (h : InjL o) {x p D : Nat} (hD : D ≤ o.length) (hp : p < D) (hx : o.getD p 0 = (x : Int)) : topD o D x = 1 := by
  rcases topD01 h x D hD with q | ⟨q, _⟩
  · have := tot_lt' (f := fun _ => 0) (g := fun p => if o.getD p 0 = (x : Int) then (1 : Int) else 0) (n := D) (fun i _ => by split <;> omega) hp (by rw [if_pos hx]; omega)
    rw [tot_zero fun _ _ => rfl] at this
    unfold topD at q
    omega
  · exact q
theorem topD_sum {o : List Int} {n D : Nat} (hr : ∀ p, p < D → 0 ≤ o.getD p 0 ∧ o.getD p 0 < n) : tot (topD o D) n = D := by
  unfold topD
  rw [tot_swap (fun x p => if o.getD p 0 = ((x : Nat) : Int) then 1 else 0), tot_congr (g := fun _ => 1) fun p hp => ?_, tot_const, Int.mul_one]
  have := hr p hp
  rw [tot_single (k := (o.getD p 0).toNat) (by omega) fun i _ hi => if_neg (by omega), if_pos (by omega)]
/-- how many arcs stand at x -/
def cntA (L : List Arc) (x : Int) : Int := tot (fun i => if (L.getD i El.d).f = x ∨ (L.getD i El.d).t = x then 1 else 0) L.length
theorem cntA_snoc (L : List Arc) (a : Arc) (x : Int) : cntA (L ++ [a]) x = cntA L x + if a.f = x ∨ a.t = x then 1 else 0 := by
  unfold cntA
  rw [List.length_append]
  show tot _ (L.length + 1) = _
  rw [tot, List.getD_eq_getElem?_getD, List.getElem?_append_right (Nat.le_refl _)]
  simp only [Nat.sub_self, List.getElem?_cons_zero, Option.getD_some]
  congr 1
  refine tot_congr fun i hi => ?_
  rw [List.getD_eq_getElem?_getD, List.getElem?_append_left hi, ← List.getD_eq_getElem?_getD]
theorem cntA_b (L : List Arc) (x : Int) : 0 ≤ cntA L x ∧ cntA L x ≤ L.length := by
  unfold cntA
  have h1 := tot_nonneg (f := fun i => if (L.getD i El.d).f = x ∨ (L.getD i El.d).t = x then (1 : Int) else 0) (n := L.length) fun i _ => by split <;> omega
  have h2 := tot_le (f := fun i => if (L.getD i El.d).f = x ∨ (L.getD i El.d).t = x then (1 : Int) else 0) (g := fun _ => 1) (n := L.length) fun i _ => by split <;> omega
  rw [tot_const] at h2
  omega
structure MkD (l : List Int) (k : Nat) (σ : List Int × List Arc) : Prop where
  len : σ.1.length = l.length
  real : ∃ g, Gr g ∧ (∀ i j, i < k → g i j = false) ∧ ∀ i, k ≤ i → i < l.length → dg g l.length i = σ.1.getD i 0
  arcs : ∀ a, a ∈ σ.2 → 0 ≤ a.f ∧ a.f < k ∧ a.f < a.t ∧ a.t < l.length
  nd : σ.2.Nodup
  lo : ∀ x : Nat, x < k → x < l.length → cntA σ.2 x = l.getD x 0
  hi : ∀ x : Nat, k ≤ x → x < l.length → σ.1.getD x 0 + cntA σ.2 x = l.getD x 0
  size : σ.2.length ≤ 12 * k
  val : ∀ x : Nat, x < l.length → 0 ≤ σ.1.getD x 0 ∧ σ.1.getD x 0 ≤ 12
theorem row_made {l left : List Int} {out : List Arc} {o : List Int} {k : Nat} (hl : l.length ≤ 12) (hll : left.length = l.length) (hinj : InjL o) (ho : ∀ p, p < o.length → (k : Int) < o.getD p 0 ∧ o.getD p 0 < l.length) (hD : (left.getD k 0).toNat ≤ o.length) (hv : ∀ x : Nat, x < l.length → -100 ≤ left.getD x 0 ∧ left.getD x 0 ≤ 100) (hsz : out.length ≤ 1000) (hol : o.length ≤ 12)
    (harc : ∀ a, a ∈ out → a.f < k) (hnd : out.Nodup) :
    ∃ left' out', forN (degree_Make_B3 k left o) (left.getD k 0).toNat 0 (left, out) = some (left', out') ∧ left'.length = l.length ∧ (∀ x : Nat, x < l.length → left'.getD x 0 = left.getD x 0 - topD o (left.getD k 0).toNat x) ∧ out'.length = out.length + (left.getD k 0).toNat ∧
      (∀ a, a ∈ out' → a ∈ out ∨ a.f = k ∧ (k : Int) < a.t ∧ a.t < l.length) ∧ out'.Nodup ∧ ∀ x : Nat, cntA out' x = cntA out x + if x = k then ((left.getD k 0).toNat : Int) else topD o (left.getD k 0).toNat x := by
  obtain ⟨⟨l', a'⟩, e, h1, h2, h3, h4, h5, h6, _⟩ := forN_inv (f := degree_Make_B3 k left o) (fun j σ => σ.1.length = l.length ∧ (∀ x : Nat, x < l.length → σ.1.getD x 0 = left.getD x 0 - topD o j x) ∧ σ.2.length = out.length + j ∧ (∀ a, a ∈ σ.2 → a ∈ out ∨ a.f = k ∧ (k : Int) < a.t ∧ a.t < l.length) ∧ σ.2.Nodup ∧ (∀ x : Nat, cntA σ.2 x = cntA out x + if x = k then (j : Int) else topD o j x) ∧ ∀ a, a ∈ σ.2 → a ∈ out ∨ ∃ p, p < j ∧ a.t = o.getD p 0) (n := (left.getD k 0).toNat) (k := 0) (s := (left, out))
    ⟨hll, fun x _ => by show left.getD x 0 = left.getD x 0 - 0; omega, rfl, fun a ha => .inl ha, hnd, fun x => by
      dsimp only
      split
      · show _ = cntA out x + 0; omega
      · show _ = cntA out x + 0; omega, fun a ha => .inl ha⟩ fun j σ _ hj ⟨i1, i2, i3, i4, i5, i6, i7⟩ => by
    obtain ⟨l', a'⟩ := σ
    dsimp only at i1 i2 i3 i4 i5 i6 i7
    have hsub : (subl o 0 (left.getD k 0).toNat).getD j (0 : Int) = o.getD j 0 := by
      have := subl_getD (xs := o) (r := 0) (len := (left.getD k 0).toNat) (e := j) (by omega)
      rw [Nat.add_zero] at this
      exact this
    have hoj := ho j (by omega)
    obtain ⟨y, hy⟩ : ∃ y : Nat, o.getD j 0 = (y : Int) := ⟨(o.getD j 0).toNat, by omega⟩
    rw [hy] at hoj hsub
    have ht := topD01 hinj y j (by omega)
    have hval := hv y (by omega)
    have hly := i2 y (by omega)
    unfold degree_Make_B3
    dsimp only
    rw [hsub, ck_some (by omega), ck_some (by omega), Int.toNat_natCast, ck_some (inI_small (by omega) (by omega))]
    have et : ∀ x : Nat, topD o (j + 1) x = topD o j x + if (y : Int) = (x : Int) then 1 else 0 := fun x => by rw [← hy]; rfl
    refine ⟨_, rfl, by simp [i1], fun x hx => ?_, by simp [i3]; omega, fun a ha => ?_, ?_, fun x => ?_, fun a ha => ?_⟩
    · dsimp only
      rw [getD_set', et]
      by_cases z : x = y
      · subst z
        rw [if_pos ⟨rfl, by omega⟩, if_pos rfl, i2 x hx]; omega
      · rw [if_neg (fun q => z q.1), if_neg (by omega), i2 x hx]; omega
    · dsimp only at ha
      rcases List.mem_append.1 ha with ha | ha
      · exact i4 a ha
      · rw [List.mem_singleton.1 ha]
        exact .inr ⟨rfl, hoj.1, hoj.2⟩
    · dsimp only
      rw [List.nodup_append]
      refine ⟨i5, by simp, fun a ha b hb => ?_⟩
      rw [List.mem_singleton.1 hb]
      intro z
      subst z
      rcases i7 _ ha with q | ⟨p, hp, q⟩
      · have := harc _ q
        dsimp only at this; omega
      · have := hinj p j (by omega) (by omega) (by rw [hy]; exact q.symm)
        omega
    · dsimp only
      rw [cntA_snoc, i6 x, et]
      dsimp only
      by_cases z : x = k
      · rw [if_pos z, if_pos z, if_pos (.inl (by omega))]; omega
      · rw [if_neg z, if_neg z]
        by_cases z2 : x = y
        · rw [if_pos (.inr (by omega)), if_pos (by omega)]; omega
        · rw [if_neg (by omega), if_neg (by omega)]; omega
    · dsimp only at ha
      rcases List.mem_append.1 ha with ha | ha
      · rcases i7 a ha with q | ⟨p, hp, q⟩
        · exact .inl q
        · exact .inr ⟨p, by omega, q⟩
      · rw [List.mem_singleton.1 ha]
        exact .inr ⟨j, by omega, hy.symm⟩
  rw [Nat.zero_add] at h2 h3 h6
  exact ⟨l', a', e, h1, h2, h3, h4, h5, h6⟩
theorem deg_behind {g : Nat → Nat → Bool} (hg : Gr g) {n k : Nat} (hk : k < n) (hlo : ∀ i j, i < k → g i j = false) : 0 ≤ dg g n k ∧ dg g n k ≤ ((n - (k + 1) : Nat) : Int) := by
  have e := dg_split (g := g) hk k
  have z : tot (e01 g k) (k + 1) = 0 := tot_zero fun j hj => by
    by_cases q : j = k
    · subst q; exact e01_f (hg.ir j)
    · rw [e01_sy hg]; exact e01_f (hlo j k (by omega))
  have h1 := tot_nonneg (f := fun m => e01 g k (k + 1 + m)) (n := n - (k + 1)) fun m _ => (e01_b g k _).1
  have h2 := tot_le (f := fun m => e01 g k (k + 1 + m)) (g := fun _ => 1) (n := n - (k + 1)) fun m _ => (e01_b g k _).2
  rw [tot_const] at h2
  omega
theorem dg_b (g : Nat → Nat → Bool) (n i : Nat) : 0 ≤ dg g n i ∧ dg g n i ≤ n := by
  unfold dg
  have h1 := tot_nonneg (f := e01 g i) (n := n) fun m _ => (e01_b g i _).1
  have h2 := tot_le (f := e01 g i) (g := fun _ => 1) (n := n) fun m _ => (e01_b g i _).2
  rw [tot_const] at h2
  omega
theorem make_row {l : List Int} (hg : OkD l) {k : Nat} (hk : k < l.length) {σ : List Int × List Arc} (h : MkD l k σ) : ∃ σ', degree_Make_B1 l k σ = some σ' ∧ MkD l (k + 1) σ' := by
  obtain ⟨left, out⟩ := σ
  have hl := hg.len
  have hll : left.length = l.length := h.len
  obtain ⟨g, g1, g2, g3⟩ := h.real
  dsimp only at g3
  obtain ⟨o0, x0, e0, o1, o2⟩ := others_ok hl hk
  have hV0 : AllV (ValD left) o0 := fun p hp => by rw [o2 p hp]; exact ⟨by omega, by omega, by omega⟩
  obtain ⟨o, e1, sw, hs⟩ := sortDegree_12 (lessD (left := left)) (l := o0) (by omega) hV0
  have ol := sw.len
  have hinj0 : InjL o0 := fun p q hp hq e => by rw [o2 p hp, o2 q hq] at e; omega
  have hinj := hinj0.sw sw (Nat.le_refl _)
  have ho : ∀ p, p < o.length → (k : Int) < o.getD p 0 ∧ o.getD p 0 < l.length := fun p hp => by
    obtain ⟨q, q1, q2, q3⟩ := sw.from (Nat.le_refl _) p (by omega) (by omega)
    rw [q3, o2 q q2]; omega
  have hb := deg_behind g1 hk g2
  rw [g3 k (Nat.le_refl _) hk] at hb
  have hD : (left.getD k 0).toNat ≤ o.length := by omega
  have hval := h.val
  dsimp only at hval
  have hv : ∀ x : Nat, x < l.length → -100 ≤ left.getD x 0 ∧ left.getD x 0 ≤ 100 := fun x hx => by have := hval x hx; omega
  have hsz : out.length ≤ 12 * k := h.size
  obtain ⟨left', out', e2, p1, p2, p3, p4, p5, p6⟩ := row_made (o := o) (k := k) (out := out) hl hll hinj ho hD hv (by omega) (by omega) (fun a ha => (h.arcs a ha).2.1) h.nd
  -- a graph of what is left
  have hnot : ∀ y : Nat, y ≤ k → topD o (left.getD k 0).toNat y = 0 := fun y hy => by
    rcases topD01 hinj y (left.getD k 0).toNat hD with q | ⟨_, p, hp, q⟩
    · exact q
    · have := ho p (by omega); omega
  have hreal : ∃ g, Gr g ∧ (∀ i j, i < k + 1 → g i j = false) ∧ ∀ i, k + 1 ≤ i → i < l.length → dg g l.length i = left'.getD i 0 := by
    have hsum : tot (fun y => if (decide (topD o (left.getD k 0).toNat y = 1)) = true then (1 : Int) else 0) l.length = left.getD k 0 := by
      rw [tot_congr (g := topD o (left.getD k 0).toNat) fun y hy => ?_, topD_sum fun p hp => ⟨by have := ho p (by omega); omega, (ho p (by omega)).2⟩]
      · omega
      · rcases topD01 hinj y (left.getD k 0).toNat hD with q | ⟨q, _⟩
        · rw [q]; decide
        · rw [q]; decide
    obtain ⟨g', r1, r2, r3, r4⟩ := lay_off (n := l.length) (a := k) (A := fun y => decide (topD o (left.getD k 0).toNat y = 1)) hk (by rw [hnot k (Nat.le_refl _)]; decide) (d := fun i => left.getD i 0) (fun y y' hy hy' hyn hyn' a1 a2 => by

      have a1' := of_decide_eq_true a1
      have a2' := of_decide_eq_false a2
      obtain ⟨p, hp, hpy⟩ : ∃ p, p < (left.getD k 0).toNat ∧ o.getD p 0 = (y : Int) := by
        rcases topD01 hinj y (left.getD k 0).toNat hD with q | ⟨_, q⟩
        · omega
        · exact q
      -- y' stands somewhere behind
      have hq : ∃ q, q < o.length ∧ o.getD q 0 = (y' : Int) := Classical.byContradiction fun hno => by
        have c1 := topD_sum (o := o) (n := l.length) (D := o.length) fun p hp => ⟨by have := ho p hp; omega, (ho p hp).2⟩
        have c2 := tot_le (f := topD o o.length) (g := fun x => if k < x ∧ x ≠ y' then 1 else 0) (n := l.length) fun x hx => by
          rcases topD01 hinj x o.length (Nat.le_refl _) with q | ⟨q, p, hp, hpx⟩
          · rw [q]; split <;> omega
          · have := ho p hp
            rw [q, if_pos ⟨by omega, fun z => hno ⟨p, hp, by rw [hpx, z]⟩⟩]
            exact Int.le_refl _
        have c3 := tot_split (fun x => if k < x ∧ x ≠ y' then (1 : Int) else 0) (k + 1) (l.length - (k + 1))
        rw [show k + 1 + (l.length - (k + 1)) = l.length by omega, tot_zero (n := k + 1) (f := fun x => if k < x ∧ x ≠ y' then (1 : Int) else 0) fun x hx => if_neg (by omega)] at c3
        have c4 := tot_lt' (f := fun i => if k < k + 1 + i ∧ k + 1 + i ≠ y' then (1 : Int) else 0) (g := fun _ => 1) (n := l.length - (k + 1)) (fun i _ => by split <;> omega) (k := y' - (k + 1)) (by omega) (by rw [if_neg (by omega)]; omega)
        rw [tot_const] at c4
        omega
      obtain ⟨q, hq, hqy⟩ := hq
      have hpq : p < q := by
        rcases Nat.lt_or_ge q (left.getD k 0).toNat with z | z
        · exact absurd (topD_pos hinj hD z hqy) a2'
        · omega
      have := hs p q (Nat.zero_le _) hpq (by omega)
      rw [hpy, hqy] at this
      unfold keyD at this
      rw [Int.toNat_natCast, Int.toNat_natCast] at this
      omega) (fun y hy => by rw [hnot y (by omega)]; decide) hsum (tot (fun y => if g k y = decide (topD o (left.getD k 0).toNat y = 1) then (0 : Int) else 1) l.length).toNat g g1 g2 g3 (by
      have := tot_nonneg (f := fun y => if g k y = decide (topD o (left.getD k 0).toNat y = 1) then (0 : Int) else 1) (n := l.length) fun y _ => by split <;> omega
      omega)
    refine ⟨fun i j => g' i j && decide (i ≠ k) && decide (j ≠ k), ⟨fun i j => by rw [r1.sy i j]; cases g' j i <;> cases decide (i ≠ k) <;> cases decide (j ≠ k) <;> rfl, fun i => by simp [r1.ir]⟩, fun i j hi => ?_, fun i hi hi2 => ?_⟩
    · by_cases z : i = k
      · simp [z]
      · simp [r2 i j (by omega)]
    · rw [p2 i hi2, ← r3 i (by omega) hi2]
      have hik : ¬ i = k := by omega
      have e := tot_upd (f := e01 (fun i j => g' i j && decide (i ≠ k) && decide (j ≠ k)) i) (g := e01 g' i) (n := l.length) hk fun j hj hne => by
        unfold e01
        simp [hik, hne]
      have e3 : e01 (fun i j => g' i j && decide (i ≠ k) && decide (j ≠ k)) i k = 0 := e01_f (by simp)
      have e4 : e01 g' i k = topD o (left.getD k 0).toNat i := by
        unfold e01
        rw [r1.sy, r4 i hi2]
        rcases topD01 hinj i (left.getD k 0).toNat hD with q | ⟨q, _⟩
        · rw [q]; decide
        · rw [q]; decide
      unfold dg
      omega
  unfold degree_Make_B1
  dsimp only
  rw [e0, bind_some']
  dsimp only
  rw [e1, bind_some', ck_some (by omega), ck_some (by omega), ck_some (by omega), ck_some (by omega), e2, bind_some']
  refine ⟨_, rfl, p1, hreal, fun a ha => ?_, p5, fun x hx hx2 => ?_, fun x hx hx2 => ?_, by show out'.length ≤ 12 * (k + 1); omega, fun x hx => ?_⟩
  · rcases p4 a ha with q | ⟨q1, q2, q3⟩
    · have := h.arcs a q
      omega
    · omega
  · rw [p6 x]
    by_cases z : x = k
    · have := h.hi k (Nat.le_refl _) hk
      dsimp only at this
      rw [if_pos z, z]; omega
    · have := h.lo x (by omega) hx2
      dsimp only at this
      rw [if_neg z, this]
      rcases topD01 hinj x (left.getD k 0).toNat hD with q | ⟨_, p, hp, q⟩
      · omega
      · have := ho p (by omega); omega
  · have := h.hi x (by omega) hx2
    dsimp only at this ⊢
    rw [p6 x, if_neg (by omega), p2 x hx2]
    omega
  · show 0 ≤ left'.getD x 0 ∧ left'.getD x 0 ≤ 12
    by_cases z : x ≤ k
    · rw [p2 x hx, hnot x z]
      have := hval x hx; omega
    · obtain ⟨g', r1, r2, r3⟩ := hreal
      rw [← r3 x (by omega) hx]
      have := dg_b g' l.length x
      omega
theorem made {l : List Int} (hg : OkD l) (hr : GrL l) : ∃ left out, forN (degree_Make_B1 l) l.length 0 (l, []) = some (left, out) ∧ MkD l l.length (left, out) := by
  have hl := hg.len
  obtain ⟨g, g1, g2⟩ := hr
  obtain ⟨⟨left, out⟩, e, h⟩ := forN_inv (f := degree_Make_B1 l) (fun k σ => MkD l k σ) (n := l.length) (k := 0) (s := (l, [])) ⟨rfl, ⟨g, g1, fun i j hi => absurd hi (by omega), fun i _ hi => g2 i hi⟩, fun a ha => absurd ha (by simp), by simp, fun x hx => absurd hx (by omega), fun x _ hx => by show l.getD x 0 + 0 = _; omega, by simp, fun x hx => by have := hg.r x hx; show 0 ≤ l.getD x 0 ∧ l.getD x 0 ≤ 12; omega⟩ fun k σ _ hk h => make_row hg (by omega) h
  rw [Nat.zero_add] at h
  exact ⟨left, out, e, h⟩
theorem degMake_total (l : List Int) : ∃ out e, degree_Make_F l = some (out, e) := by
  unfold degree_Make_F
  rcases can_cases l with ⟨hg, b, e, hb⟩ | ⟨_, er, he, e⟩
  · rw [e, bind_some']
    dsimp only
    rw [if_neg (by decide)]
    cases b with
    | false => rw [if_pos (by decide)]; exact ⟨_, _, rfl⟩
    | true =>
      have hl := hg.len
      have ecl : slices_Clone_int_F l = some l := by
        unfold slices_Clone_int_F
        rw [ck_some (by omega)]; rfl
      obtain ⟨left, out, e2, h⟩ := made hg (hb.1 rfl)
      rw [if_neg (by decide), ecl, bind_some', e2, bind_some']
      exact ⟨_, _, rfl⟩
  · rw [e, bind_some']
    dsimp only
    rw [if_pos he]
    exact ⟨_, _, rfl⟩
end Go.Proofs.Ytlpelkfcmeapiaa
