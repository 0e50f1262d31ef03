/- Package span: Least, what it chooses. -/
import Derived.Test.YtkpdkigkhbkfiaaPsortI
import Derived.Test.YtkpdkigkhbkfiaaPsortSpan
import Derived.Test.YtkpdkigkhbkfiaaPgraph
import Derived.Test.YtkpdkigkhbkfiaaPlB
namespace Go.Proofs.Ytkpdkigkhbkfiaa
open Go Go.Proofs.Ytkpdkigkhbkfiaa.Sx
set_option linter.unusedVariables false
set_option linter.unusedSimpArgs false
/-! ### changing over keeps what there is -/
theorem Sw.mem' {a b : Nat} {l m : List Int} (h : Sw a b l m) (hb : b ≤ l.length) {x : Int} (hx : x ∈ l) : x ∈ m := by
  have := h.inv (P := fun z => z.length = l.length ∧ x ∈ z) (fun z i j h1 h2 h3 h4 ⟨z1, z2⟩ => ⟨by rw [swapL_len]; exact z1, by
    obtain ⟨k, hk, e⟩ := getD_of_mem (d := 0) z2
    have hj : swapJ i j k < z.length := by
      unfold swapJ
      split
      · omega
      · split <;> omega
    have e2 : (swapL z i j).getD (swapJ i j k) 0 = x := by
      rw [swapL_getD (by omega) (by omega), ← e]
      congr 1
      unfold swapJ
      repeat' split
      all_goals omega
    rw [← e2]
    exact mem_getD (by rw [swapL_len]; exact hj)⟩) ⟨rfl, hx⟩
  exact this.2
/-! ### how many labels there are -/
theorem first_of {Q : Nat → Prop} {n : Nat} (h : Q n) : ∃ x, x ≤ n ∧ Q x ∧ ∀ y, y < x → ¬ Q y := by
  induction n using Nat.strongRecOn with
  | ind n ih =>
    by_cases c : ∃ y, y < n ∧ Q y
    · obtain ⟨y, hy, q⟩ := c
      obtain ⟨x, h1, h2, h3⟩ := ih y hy q
      exact ⟨x, by omega, h2, h3⟩
    · exact ⟨n, Nat.le_refl _, h, fun y hy q => c ⟨y, hy, q⟩⟩
open Classical in
/-- the first one of each label -/
noncomputable def firstS (P : Nat → Int) (x : Nat) : Bool := decide (∀ y, y < x → P y ≠ P x)
theorem firstS_iff (P : Nat → Int) (x : Nat) : firstS P x = true ↔ ∀ y, y < x → P y ≠ P x := by unfold firstS; exact decide_eq_true_iff
noncomputable def cls (n : Nat) (P : Nat → Int) : Nat := cnt (firstS P) n
theorem cnt_congr {S T : Nat → Bool} : ∀ {n : Nat}, (∀ x, x < n → S x = T x) → cnt S n = cnt T n := fun {n} h =>
  Nat.le_antisymm (cnt_mono fun x hx e => by rw [← h x hx]; exact e) (cnt_mono fun x hx e => by rw [h x hx]; exact e)
theorem cls_congr {n : Nat} {P Q : Nat → Int} (h : ∀ x y, x < n → y < n → (P x = P y ↔ Q x = Q y)) : cls n P = cls n Q := cnt_congr fun x hx => by
  have : firstS P x = true ↔ firstS Q x = true := by
    rw [firstS_iff, firstS_iff]
    exact ⟨fun w y hy e => w y hy ((h y x (by omega) hx).2 e), fun w y hy e => w y hy ((h y x (by omega) hx).1 e)⟩
  cases e1 : firstS P x <;> cases e2 : firstS Q x <;> simp_all
theorem cnt_less {S T : Nat → Bool} {u : Nat} : ∀ {n : Nat}, u < n → S u = true → T u = false → (∀ x, x < n → x ≠ u → T x = S x) → cnt T n + 1 = cnt S n
  | 0, h, _, _, _ => absurd h (by omega)
  | n + 1, h, h1, h2, h3 => by
    rw [cnt, cnt]
    by_cases c : u = n
    · subst c
      rw [h1, h2, cnt_congr (S := T) (T := S) fun x hx => h3 x (by omega) (by omega)]; simp
    · have := cnt_less (n := n) (by omega) h1 h2 fun x hx hne => h3 x (by omega) hne
      rw [h3 n (by omega) (fun w => c w.symm)]
      omega
/-- two labels made one: there is one less -/
theorem cls_merge {n f t : Nat} {P : Nat → Int} (hf : f < n) (ht : t < n) (hne : P f ≠ P t) : cls n (fun x => if P x = P f then P t else P x) + 1 = cls n P := by
  obtain ⟨a, a1, a2, a3⟩ := first_of (Q := fun x => P x = P f) (n := f) rfl
  obtain ⟨b, b1, b2, b3⟩ := first_of (Q := fun x => P x = P t) (n := t) rfl
  have key : ∀ x, firstS (fun x => if P x = P f then P t else P x) x = true ↔ (firstS P x = true ∧ x ≠ max a b) := fun x => by
    rw [firstS_iff, firstS_iff]
    by_cases c1 : P x = P f
    · constructor
      · intro h
        have h' : ∀ y, y < x → P y ≠ P f ∧ P y ≠ P t := fun y hy => by
          have := h y hy
          (try dsimp only at this)
          rw [if_pos c1] at this
          by_cases d : P y = P f
          · rw [if_pos d] at this; exact absurd rfl this
          · rw [if_neg d] at this; exact ⟨d, this⟩
        refine ⟨fun y hy e => (h' y hy).1 (by rw [e, c1]), fun e => ?_⟩
        by_cases d : a ≤ b
        · have : x = b := by omega
          subst this
          rw [b2] at c1; exact hne c1.symm
        · exact (h' b (by omega)).2 b2
      · intro ⟨h1, h2⟩ y hy
        have hx : x = a := by
          refine Classical.byContradiction fun w => ?_
          by_cases d : x < a
          · exact a3 x d c1
          · exact h1 a (by omega) (by rw [a2, c1])
        subst hx
        (try dsimp only)
        rw [if_pos c1]
        have hay : P y ≠ P f := a3 y hy
        rw [if_neg hay]
        intro e
        exact b3 y (by omega) e
    · by_cases c2 : P x = P t
      · constructor
        · intro h
          have h' : ∀ y, y < x → P y ≠ P f ∧ P y ≠ P t := fun y hy => by
            have := h y hy
            (try dsimp only at this)
            rw [if_neg c1, c2] at this
            by_cases d : P y = P f
            · rw [if_pos d] at this; exact absurd rfl this
            · rw [if_neg d] at this; exact ⟨d, this⟩
          refine ⟨fun y hy e => (h' y hy).2 (by rw [e, c2]), fun e => ?_⟩
          by_cases d : a ≤ b
          · by_cases d2 : a = b
            · subst d2; rw [a2] at b2; exact hne b2
            · exact (h' a (by omega)).1 a2
          · have : x = a := by omega
            subst this
            exact c1 a2
        · intro ⟨h1, h2⟩ y hy
          have hx : x = b := by
            refine Classical.byContradiction fun w => ?_
            by_cases d : x < b
            · exact b3 x d c2
            · exact h1 b (by omega) (by rw [b2, c2])
          subst hx
          (try dsimp only)
          rw [if_neg c1, c2]
          have hyt : P y ≠ P t := b3 y hy
          by_cases d : P y = P f
          · exact absurd d (a3 y (by omega))
          · rw [if_neg d]; exact hyt
      · constructor
        · intro h
          refine ⟨fun y hy e => ?_, fun e => ?_⟩
          · have := h y hy
            (try dsimp only at this)
            rw [if_neg c1, if_neg (by rw [e]; exact c1)] at this
            exact this e
          · by_cases d : a ≤ b
            · have : x = b := by omega
              subst this; exact c2 b2
            · have : x = a := by omega
              subst this; exact c1 a2
        · intro ⟨h1, h2⟩ y hy
          (try dsimp only)
          rw [if_neg c1]
          by_cases d : P y = P f
          · rw [if_pos d]; exact fun e => c2 e.symm
          · rw [if_neg d]; exact h1 y hy
  refine cnt_less (u := max a b) (by omega) ?_ ?_ fun x _ hx => ?_
  · rw [firstS_iff]
    intro y hy
    by_cases d : a ≤ b
    · rw [show max a b = b by omega] at hy ⊢
      rw [b2]; exact b3 y hy
    · rw [show max a b = a by omega] at hy ⊢
      rw [a2]; exact a3 y hy
  · cases e : firstS (fun x => if P x = P f then P t else P x) (max a b) with
    | false => rfl
    | true => exact absurd rfl ((key _).1 e).2
  · have := key x
    cases e1 : firstS (fun x => if P x = P f then P t else P x) x <;> cases e2 : firstS P x <;> simp_all
/-! ### the order -/
def capOf (g : Graph) (k : Int) : Int := (g.as.getD k.toNat El.d).c
/-- the least first, and of the same the first -/
def keyS (g : Graph) (k : Int) : Int := capOf g k * 64 + k
def InA (g : Graph) (k : Int) : Prop := 0 ≤ k ∧ k < g.as.length
theorem lessS {g : Graph} (hg : Ok g) (x y : Int) (hx : InA g x) (hy : InA g y) : ∃ r, span_Least_c1_F x y g = some r ∧ (r < 0 ↔ keyS g x < keyS g y) := by
  have hl := hg.len
  obtain ⟨x0, x1⟩ := hx
  obtain ⟨y0, y1⟩ := hy
  unfold span_Least_c1_F
  rw [ck_some ⟨x0, x1⟩, ck_some ⟨y0, y1⟩, cmpC_eq, bind_some', cmpC_eq, bind_some', orC_eq, bind_some']
  refine ⟨_, rfl, ?_⟩
  unfold keyS capOf
  generalize (g.as.getD x.toNat El.d).c = c
  generalize (g.as.getD y.toNat El.d).c = d
  by_cases h1 : c < d
  · rw [if_pos h1, if_pos (by decide)]; omega
  · by_cases h2 : d < c
    · rw [if_neg h1, if_pos h2, if_pos (by decide)]; omega
    · rw [if_neg h1, if_neg h2, if_neg (by decide)]
      by_cases h3 : x < y
      · rw [if_pos h3]; omega
      · by_cases h4 : y < x
        · rw [if_neg h3, if_pos h4]; omega
        · rw [if_neg h3, if_neg h4]; omega
theorem keyS_inj {g : Graph} (hg : Ok g) {x y : Int} (hx : InA g x) (hy : InA g y) (h : keyS g x = keyS g y) : x = y := by
  have hl := hg.len
  obtain ⟨x0, x1⟩ := hx
  obtain ⟨y0, y1⟩ := hy
  unfold keyS at h
  omega
def iota (n : Nat) : List Int := (List.range n).map fun (i : Nat) => (i : Int)
theorem iota_len (n : Nat) : (iota n).length = n := by simp [iota]
theorem iota_getD {n i : Nat} (h : i < n) : (iota n).getD i 0 = (i : Int) := by simp [iota, List.getD_eq_getElem?_getD, h]
theorem iota_loop : ∀ n k : Nat, k + n ≤ 1000000 → forN span_Least_B1 n k (iota k) = some (iota (k + n))
  | 0, k, _ => rfl
  | n + 1, k, h => by
    rw [forN]
    have e : span_Least_B1 k (iota k) = some (iota (k + 1)) := by
      unfold span_Least_B1
      rw [ck_some (by rw [iota_len]; omega)]
      congr 1
      unfold iota
      rw [List.range_succ, List.map_append]; rfl
    rw [e, show k + (n + 1) = k + 1 + n by omega]
    exact iota_loop n (k + 1) (by omega)
/-! ### what is chosen -/
def fA (g : Graph) (k : Int) : Int := (g.as.getD k.toNat El.d).f
def tA (g : Graph) (k : Int) : Int := (g.as.getD k.toNat El.d).t
/-- m is the same at both ends -/
def Even (g : Graph) (m : Int → Int) (k : Int) : Prop := m (fA g k) = m (tA g k)
theorem InA.good {g : Graph} (hg : Ok g) {k : Int} (h : InA g k) : Good g.n (-10000) (g.as.getD k.toNat El.d) := hg.arc _ (mem_getD (by have := h.1; have := h.2; omega))
structure Kr (g : Graph) (O : List Int) (j : Nat) (P C : List Int) : Prop where
  len : P.length = g.n.toNat
  done : ∀ i, i < j → Even g (atI P) (O.getD i 0)
  joined : ∀ m : Int → Int, (∀ k, k ∈ C → Even g m k) → ∀ x y, 0 ≤ x → x < g.n → 0 ≤ y → y < g.n → atI P x = atI P y → m x = m y
  lab : ∀ x, 0 ≤ x → x < g.n → 0 ≤ atI P x ∧ atI P x < g.n
  from' : ∀ k, k ∈ C → ∃ i, i < j ∧ k = O.getD i 0
  left : ∀ i, i < j → O.getD i 0 ∉ C → ∀ m : Int → Int, (∀ k, k ∈ C → keyS g k < keyS g (O.getD i 0) → Even g m k) → Even g m (O.getD i 0)
  many : C.length + cls g.n.toNat (fun x => P.getD x 0) = g.n.toNat
theorem merge_loop {g : Graph} {O : List Int} {j : Nat} {P : List Int} : ∃ P', forN (span_Least_B4 g O j P) P.length 0 P = some P' ∧ P'.length = P.length ∧ ∀ i, i < P.length → P'.getD i 0 = if P.getD i 0 = P.getD (fA g (O.getD j 0)).toNat 0 then P.getD (tA g (O.getD j 0)).toNat 0 else P.getD i 0 := by
  obtain ⟨P', e, h1, h2⟩ := forN_inv (f := span_Least_B4 g O j P) (fun k Q => Q.length = P.length ∧ ∀ i, i < P.length → Q.getD i 0 = if i < k then (if P.getD i 0 = P.getD (fA g (O.getD j 0)).toNat 0 then P.getD (tA g (O.getD j 0)).toNat 0 else P.getD i 0) else P.getD i 0) (n := P.length) (k := 0) (s := P)
    ⟨rfl, fun i _ => by rw [if_neg (by omega)]⟩ fun k Q _ hk ⟨i1, i2⟩ => by
      have hk' : k < P.length := by omega
      have ek : Q.getD k 0 = P.getD k 0 := by rw [i2 k hk', if_neg (by omega)]
      unfold span_Least_B4
      rw [ck_some (by omega), ek]
      have e1 : P.getD ((g.as.getD (O.getD j 0).toNat El.d).f).toNat 0 = P.getD (fA g (O.getD j 0)).toNat 0 := rfl
      have e2 : P.getD ((g.as.getD (O.getD j 0).toNat El.d).t).toNat 0 = P.getD (tA g (O.getD j 0)).toNat 0 := rfl
      rw [e1, e2]
      by_cases c : P.getD k 0 = P.getD (fA g (O.getD j 0)).toNat 0
      · rw [if_pos c]
        refine ⟨_, rfl, by rw [List.length_set, i1], fun i hi => ?_⟩
        rw [getD_set']
        by_cases z : i = k
        · rw [if_pos ⟨z, by omega⟩, if_pos (by omega), z, if_pos c]
        · rw [if_neg fun w => z w.1, i2 i hi]
          by_cases y : i < k
          · have y' : i < k + 1 := by omega
            rw [if_pos y, if_pos y']
          · have y' : ¬ i < k + 1 := by omega
            rw [if_neg y, if_neg y']
      · rw [if_neg c]
        refine ⟨_, rfl, i1, fun i hi => ?_⟩
        rw [i2 i hi]
        by_cases z : i = k
        · subst z
          rw [if_neg (Nat.lt_irrefl i), if_pos (Nat.lt_succ_self i), if_neg c]
        · by_cases y : i < k
          · have y' : i < k + 1 := by omega
            rw [if_pos y, if_pos y']
          · have y' : ¬ i < k + 1 := by omega
            rw [if_neg y, if_neg y']
  exact ⟨P', e, h1, fun i hi => by rw [h2 i hi, if_pos (by omega)]⟩
/-- What Least answers. -/
structure Chosen (g : Graph) (l : List Int) : Prop where
  inA : ∀ k, k ∈ l → InA g k
  left : ∀ k, InA g k → k ∉ l → ∀ m : Int → Int, (∀ i, i ∈ l → keyS g i < keyS g k → Even g m i) → Even g m k
  many : ∃ P : Int → Int, (∀ k, InA g k → Even g P k) ∧ (∀ m : Int → Int, (∀ k, k ∈ l → Even g m k) → ∀ x y, 0 ≤ x → x < g.n → 0 ≤ y → y < g.n → P x = P y → m x = m y) ∧ l.length + cls g.n.toNat (fun x => P x) = g.n.toNat
theorem cls_id (n : Nat) : cls n (fun x => (x : Int)) = n := by
  have : ∀ m, m ≤ n → cnt (firstS fun x => (x : Int)) m = m := fun m => by
    induction m with
    | zero => intro _; rfl
    | succ m ih =>
      intro h
      rw [cnt, ih (by omega)]
      have : firstS (fun x => (x : Int)) m = true := by
        rw [firstS_iff]
        intro y hy
        omega
      rw [this]; simp
  exact this n (Nat.le_refl _)
theorem least_ok {g : Graph} (hg : Ok g) : ∃ l s, span_Least_F g = some (l, s, 0) ∧ Chosen g l := by
  have hl := hg.len
  have n0 := hg.n0
  have n1 := hg.n1
  have hV0 : AllV (InA g) (iota g.as.length) := fun p hp => by
    rw [iota_len] at hp
    rw [iota_getD hp]; exact ⟨by omega, by omega⟩
  obtain ⟨O, eO, sO, aO⟩ := sortSpan_all (κ := keyS g) (V := InA g) (fun x y => lessS hg x y) (l := iota g.as.length) (by rw [iota_len]; omega) hV0
  have lO := sO.len
  rw [iota_len] at lO sO aO
  have hVO : ∀ i, i < g.as.length → InA g (O.getD i 0) := fun i hi => (hV0.sw sO (by rw [iota_len]; exact Nat.le_refl _)) i (by omega)
  have injO : InjL O := InjL.sw (l := iota g.as.length) (fun p q hp hq e => by
    rw [iota_len] at hp hq
    rw [iota_getD hp, iota_getD hq] at e; omega) sO (by rw [iota_len]; exact Nat.le_refl _)
  have onto : ∀ k, InA g k → ∃ i, i < g.as.length ∧ O.getD i 0 = k := fun k hk => by
    have h0 := hk.1; have h1 := hk.2
    have : k ∈ iota g.as.length := by
      have e := iota_getD (n := g.as.length) (i := k.toNat) (by omega)
      have : (iota g.as.length).getD k.toNat 0 ∈ iota g.as.length := mem_getD (by rw [iota_len]; omega)
      rw [e, show ((k.toNat : Nat) : Int) = k by omega] at this
      exact this
    obtain ⟨i, hi, e⟩ := getD_of_mem (d := 0) (sO.mem' (by rw [iota_len]; exact Nat.le_refl _) this)
    exact ⟨i, by omega, e⟩
  have strict : ∀ p q, p < q → q < g.as.length → keyS g (O.getD p 0) < keyS g (O.getD q 0) := fun p q h1 h2 => by
    have := aO p q (Nat.zero_le _) h1 h2
    refine Classical.byContradiction fun w => ?_
    have := injO p q (by omega) (by omega) (keyS_inj hg (hVO p (by omega)) (hVO q h2) (by omega))
    omega
  unfold span_Least_F
  have e1 := iota_loop g.as.length 0 (by omega)
  rw [Nat.zero_add] at e1
  have e1' : forN span_Least_B1 g.as.length 0 [] = some (iota g.as.length) := e1
  rw [checkLong_ok hg, bind_some', if_neg (by decide), e1', bind_some', eO, bind_some', ck_some (by rw [lO, iota_len]), ck_some ⟨by omega, by omega⟩]
  -- the labels at first
  obtain ⟨P0, e2, q1, q2⟩ := forN_inv (f := span_Least_B2) (fun k Q => Q.length = g.n.toNat ∧ ∀ i, i < k → Q.getD i 0 = (i : Int)) (n := g.n.toNat) (k := 0) (s := List.replicate g.n.toNat (0 : Int)) ⟨by simp, fun i hi => absurd hi (by omega)⟩ fun k Q _ hk ⟨i1, i2⟩ => by
    unfold span_Least_B2
    rw [ck_some (by omega)]
    refine ⟨_, rfl, by rw [List.length_set, i1], fun i hi => ?_⟩
    rw [getD_set']
    by_cases z : i = k
    · rw [if_pos ⟨z, by omega⟩, z]
    · rw [if_neg fun w => z w.1]; exact i2 i (by omega)
  rw [Nat.zero_add] at q2
  rw [e2, bind_some', iota_len]
  have at0 : ∀ x, 0 ≤ x → x < g.n → atI P0 x = x := fun x h1 h2 => by
    unfold atI
    rw [q2 x.toNat (by omega)]; omega
  obtain ⟨σ, e3, hK, hs⟩ := forN_inv (f := span_Least_B3 g O) (fun j σ => Kr g O j σ.1 σ.2.1 ∧ -(10000 * (j : Int)) ≤ σ.2.2 ∧ σ.2.2 ≤ 10000 * j) (n := g.as.length) (k := 0) (s := (P0, ([] : List Int), (0 : Int)))
    ⟨⟨q1, fun i hi => absurd hi (by omega), fun m _ x y x0 x1 y0 y1 e => by rw [at0 x x0 x1, at0 y y0 y1] at e; rw [e], fun x h1 h2 => by rw [at0 x h1 h2]; exact ⟨h1, h2⟩, fun k hk => (by cases hk), fun i hi => absurd hi (by omega), by
      have : cls g.n.toNat (fun x => P0.getD x 0) = cls g.n.toNat (fun x => (x : Int)) := cls_congr fun x y hx hy => by rw [q2 x hx, q2 y hy]
      show 0 + cls g.n.toNat (fun x => P0.getD x 0) = _
      rw [this, cls_id]; omega⟩, by dsimp only; omega, by dsimp only; omega⟩ fun j σ _ hj ⟨hK, b1, b2⟩ => by
      obtain ⟨P, C, s⟩ := σ
      dsimp only at hK b1 b2
      have hj' : j < g.as.length := by omega
      have hk := hVO j hj'
      have hA := hk.good hg
      have f0 : 0 ≤ fA g (O.getD j 0) := hA.f0; have f1 : fA g (O.getD j 0) < g.n := hA.f1; have t0 : 0 ≤ tA g (O.getD j 0) := hA.t0; have t1 : tA g (O.getD j 0) < g.n := hA.t1; have c0 := hA.c0; have c1 := hA.c1
      have pl := hK.len
      have f0' := hA.f0; have f1' := hA.f1; have t0' := hA.t0; have t1' := hA.t1
      have hlt : ∀ k, k ∈ C → keyS g k < keyS g (O.getD j 0) := fun k hk => by
        obtain ⟨i, hi, e⟩ := hK.from' k hk
        rw [e]; exact strict i j hi hj'
      unfold span_Least_B3
      dsimp only
      rw [ck_some ⟨hk.1, hk.2⟩, ck_some (by omega), ck_some (by omega)]
      by_cases c : P.getD ((g.as.getD (O.getD j 0).toNat El.d).f).toNat 0 = P.getD ((g.as.getD (O.getD j 0).toNat El.d).t).toNat 0
      · rw [if_pos c]
        refine ⟨_, rfl, ⟨pl, fun i hi => ?_, hK.joined, hK.lab, fun k hk => ?_, fun i hi hn m hm => ?_, hK.many⟩, by dsimp only; omega, by dsimp only; omega⟩
        · by_cases z : i = j
          · rw [z]; exact c
          · exact hK.done i (by omega)
        · obtain ⟨i, hi, e⟩ := hK.from' k hk; exact ⟨i, by omega, e⟩
        · by_cases z : i = j
          · rw [z] at hm ⊢
            exact hK.joined m (fun k hk => hm k hk (hlt k hk)) _ _ f0 f1 t0 t1 c
          · exact hK.left i (by omega) hn m hm
      · have lc : C.length ≤ g.n.toNat := by have := hK.many; omega
        obtain ⟨P', e4, p1, p2⟩ := merge_loop (g := g) (O := O) (j := j) (P := P)
        rw [if_neg c, ck_some (by omega), ck_some (inI_small (by omega) (by omega)), e4, bind_some']
        have atP : ∀ x, 0 ≤ x → x < g.n → atI P' x = if atI P x = atI P (fA g (O.getD j 0)) then atI P (tA g (O.getD j 0)) else atI P x := fun x h1 h2 => p2 x.toNat (by omega)
        have hne : atI P (fA g (O.getD j 0)) ≠ atI P (tA g (O.getD j 0)) := c
        have hnew : O.getD j 0 ∉ C := fun w => by
          have := hlt _ w; omega
        have ev : ∀ m : Int → Int, (∀ k, k ∈ C ++ [O.getD j 0] → Even g m k) → (∀ k, k ∈ C → Even g m k) ∧ Even g m (O.getD j 0) := fun m h => ⟨fun k hk => h k (by simp [hk]), h _ (by simp)⟩
        refine ⟨_, rfl, ⟨by dsimp only; omega, fun i hi => ?_, fun m hm x y x0 x1 y0 y1 e => ?_, fun x h1 h2 => ?_, fun k hk => ?_, fun i hi hn m hm => ?_, ?_⟩, by dsimp only [capOf]; omega, by dsimp only; omega⟩
        · dsimp only
          by_cases z : i = j
          · rw [z]
            show atI P' (fA g (O.getD j 0)) = atI P' (tA g (O.getD j 0))
            rw [atP _ f0 f1, atP _ t0 t1, if_pos rfl]
            split <;> rfl
          · have hB := (hVO i (by omega)).good hg
            have := hK.done i (by omega)
            unfold Even at this ⊢
            have b1 : 0 ≤ fA g (O.getD i 0) := hB.f0
            have b2 : fA g (O.getD i 0) < g.n := hB.f1
            have b3 : 0 ≤ tA g (O.getD i 0) := hB.t0
            have b4 : tA g (O.getD i 0) < g.n := hB.t1
            rw [atP _ b1 b2, atP _ b3 b4, this]
        · obtain ⟨w1, w2⟩ := ev m hm
          have J := hK.joined m w1
          dsimp only at e
          rw [atP x x0 x1, atP y y0 y1] at e
          unfold Even at w2
          by_cases d1 : atI P x = atI P (fA g (O.getD j 0))
          · have g1 := J x _ x0 x1 f0 f1 d1
            by_cases d2 : atI P y = atI P (fA g (O.getD j 0))
            · rw [g1, J y _ y0 y1 f0 f1 d2]
            · rw [if_pos d1, if_neg d2] at e
              rw [g1, w2, J y _ y0 y1 t0 t1 e.symm]
          · by_cases d2 : atI P y = atI P (fA g (O.getD j 0))
            · rw [if_neg d1, if_pos d2] at e
              rw [J x _ x0 x1 t0 t1 e, ← w2, J y _ y0 y1 f0 f1 d2]
            · rw [if_neg d1, if_neg d2] at e
              exact J x y x0 x1 y0 y1 e
        · dsimp only
          rw [atP x h1 h2]
          split
          · exact hK.lab _ t0 t1
          · exact hK.lab x h1 h2
        · rcases List.mem_append.1 hk with h | h
          · obtain ⟨i, hi, e⟩ := hK.from' k h; exact ⟨i, by omega, e⟩
          · rw [List.mem_singleton] at h; exact ⟨j, by omega, h⟩
        · dsimp only at hn hm
          by_cases z : i = j
          · rw [z] at hn; exact absurd (List.mem_append.2 (.inr (List.mem_singleton.2 rfl))) hn
          · exact hK.left i (by omega) (fun w => hn (List.mem_append.2 (.inl w))) m fun k hk hlt => hm k (List.mem_append.2 (.inl hk)) hlt
        · dsimp only
          have e5 : cls g.n.toNat (fun x => P'.getD x 0) = cls g.n.toNat (fun x => if P.getD x 0 = P.getD (fA g (O.getD j 0)).toNat 0 then P.getD (tA g (O.getD j 0)).toNat 0 else P.getD x 0) := cls_congr fun x y hx hy => by rw [p2 x (by omega), p2 y (by omega)]
          have e6 := cls_merge (n := g.n.toNat) (f := (fA g (O.getD j 0)).toNat) (t := (tA g (O.getD j 0)).toNat) (P := fun x => P.getD x 0) (by unfold fA; omega) (by unfold tA; omega) hne
          have := hK.many
          rw [e5, List.length_append, List.length_singleton]
          omega
  obtain ⟨P, C, s⟩ := σ
  dsimp only at hK hs
  rw [Nat.zero_add] at hK
  rw [e3, bind_some']
  dsimp only
  have lc : C.length ≤ g.n.toNat := by have := hK.many; omega
  obtain ⟨C', e7, s7, a7⟩ := sortI_all lessI (l := C) (by omega) (fun _ _ => trivial)
  have l7 := s7.len
  have m7 : ∀ k, k ∈ C' ↔ k ∈ C := fun k => ⟨fun h => s7.mem (Nat.le_refl _) h, fun h => s7.mem' (Nat.le_refl _) h⟩
  rw [e7, bind_some', ck_some l7]
  refine ⟨C', s, rfl, fun k hk => ?_, fun k hk hn m hm => ?_, atI P, fun k hk => ?_, fun m hm => hK.joined m fun k hk => hm k ((m7 k).2 hk), ?_⟩
  · obtain ⟨i, hi, e⟩ := hK.from' k ((m7 k).1 hk)
    rw [e]; exact hVO i hi
  · obtain ⟨i, hi, e⟩ := onto k hk
    subst e
    exact hK.left i hi (fun w => hn ((m7 _).2 w)) m fun k hk hlt => hm k ((m7 k).2 hk) hlt
  · obtain ⟨i, hi, e⟩ := onto k hk
    subst e
    exact hK.done i hi
  · have := hK.many
    rw [l7]; exact this
theorem least_bad {g : Graph} (h : checkF g (-10000) ≠ 0) : span_Least_F g = some ([], 0, checkF g (-10000)) := by
  unfold span_Least_F
  rw [checkLong_eq, bind_some', if_pos h]
end Go.Proofs.Ytkpdkigkhbkfiaa
