/- The sort sortI: it puts the entries in order, by changing entries over. -/
import Derived.Test.YtlpelkfcmeapiaaPsort2
import Derived.Test.YtlpelkfcmeapiaaGsort
namespace Go.Proofs.Ytlpelkfcmeapiaa
open Go Go.Proofs.Ytlpelkfcmeapiaa.Sx
set_option linter.unusedVariables false
set_option linter.unusedSimpArgs false
section
variable {κ : Int → Int} {V : Int → Prop} 
theorem sortI_p {r : Bool} {P : Prop} (h : (r = true) ↔ P) (c : ¬P) : (!r) = true := by first | exact fun z => c (h.1 z) | (cases r <;> simp_all)
theorem sortI_n {r : Bool} {P : Prop} (h : (r = true) ↔ P) (c : P) : ¬ ((!r) = true) := by first | exact fun z => z (h.2 c) | (cases r <;> simp_all)
theorem sortI_inner (hless : ∀ x y, V x → V y → ∃ r, cmp_Less_int_F x y = some r ∧ (r = true ↔ κ x < κ y)) {a x : Nat} {l : List Int} (hl : l.length ≤ 100000000000000000) (hV : AllV V l) (hx : x < l.length) (hax : a ≤ x) (hs : AscK κ a x l) :
    ∃ l' x', loopC (slices_insertionSortOrdered_int_B2 (a : Int)) 1000000000000000000 (l, (x : Int)) = some (.go (l', x')) ∧ Sw a (x + 1) l l' ∧ AscK κ a (x + 1) l' := by
  obtain ⟨q, e, ⟨l', x'⟩, rfl, hq⟩ := loopC_or (f := slices_insertionSortOrdered_int_B2 (a : Int)) (fun σ => Sw a (x + 1) l σ.1 ∧ (a : Int) ≤ σ.2 ∧ σ.2 ≤ x ∧ InsK κ a x σ.2.toNat σ.1) (fun q => ∃ σ, q = .go σ ∧ Sw a (x + 1) l σ.1 ∧ AscK κ a (x + 1) σ.1) (fun σ => σ.2.toNat) (fun σ ⟨i1, i2, i3, i4⟩ => by
    obtain ⟨m, y⟩ := σ
    dsimp only at i1 i2 i3 i4
    have hlen := i1.len
    have hVm := hV.sw i1 (by omega)
    obtain ⟨y, rfl⟩ := Int.eq_ofNat_of_zero_le (show 0 ≤ y by omega)
    rw [Int.toNat_natCast] at i4
    unfold slices_insertionSortOrdered_int_B2
    dsimp only
    by_cases c : (a : Int) < (y : Int)
    · have ey : ((y : Int) - 1).toNat = y - 1 := by omega
      obtain ⟨r, er, hr⟩ := hless (m.getD y 0) (m.getD (y - 1) 0) (hVm y (by omega)) (hVm (y - 1) (by omega))
      rw [if_pos c, ck_some (by omega), ck_some (inI_b (by omega) (by omega)), ck_some (by omega), ey, Int.toNat_natCast, er, bind_some']
      by_cases c2 : κ (m.getD y 0) < κ (m.getD (y - 1) 0)
      · rw [if_pos (hr.2 c2)]
        exact .inl ⟨_, rfl, ⟨i1.step ⟨by omega, by omega⟩ ⟨by omega, by omega⟩, by show (a : Int) ≤ (y : Int) - 1; omega, by show (y : Int) - 1 ≤ _; omega, by
          show InsK κ a x ((y : Int) - 1).toNat _
          rw [ey]
          exact i4.step (by omega) (by omega) (by omega) (by omega)⟩, by show ((y : Int) - 1).toNat < ((y : Nat) : Int).toNat; omega⟩
      · rw [if_neg (fun z => c2 (hr.1 z))]
        exact .inr (.inl ⟨_, rfl, _, rfl, i1, i4.done (.inr (by omega))⟩)
    · rw [if_neg c]
      exact .inr (.inl ⟨_, rfl, _, rfl, i1, i4.done (.inl (by omega))⟩)) (n := 1000000000000000000) (s := (l, (x : Int))) ⟨.refl _, by show (a : Int) ≤ x; omega, by show (x : Int) ≤ x; omega, by
      show InsK κ a x ((x : Int)).toNat l
      rw [Int.toNat_natCast]
      exact ⟨fun p q ha hpq hq hp1 hq1 => hs p q ha hpq (by omega), fun q h1 h2 => by omega⟩⟩ (by show ((x : Nat) : Int).toNat < _; omega)
  exact ⟨l', x', e, hq⟩
theorem sortI_ins (hless : ∀ x y, V x → V y → ∃ r, cmp_Less_int_F x y = some r ∧ (r = true ↔ κ x < κ y)) {a b : Nat} {l : List Int} (hl : l.length ≤ 100000000000000000) (hV : AllV V l) (hb : b ≤ l.length) (hab : a ≤ b) : ∃ l', slices_insertionSortOrdered_int_F l (a : Int) (b : Int) = some l' ∧ Sw a b l l' ∧ AscK κ a b l' := by
  obtain ⟨q, e, ⟨l', x'⟩, rfl, hq⟩ := loopC_or (f := slices_insertionSortOrdered_int_B1 (a : Int) (b : Int)) (fun σ => Sw a b l σ.1 ∧ (a : Int) + 1 ≤ σ.2 ∧ AscK κ a (min σ.2.toNat b) σ.1) (fun q => ∃ σ, q = .go σ ∧ Sw a b l σ.1 ∧ AscK κ a b σ.1) (fun σ => ((b : Int) - σ.2).toNat) (fun σ ⟨i1, i2, i3⟩ => by
    obtain ⟨m, x⟩ := σ
    dsimp only at i1 i2 i3
    have hlen := i1.len
    have hVm := hV.sw i1 hb
    obtain ⟨x, rfl⟩ := Int.eq_ofNat_of_zero_le (show 0 ≤ x by omega)
    rw [Int.toNat_natCast] at i3
    unfold slices_insertionSortOrdered_int_B1
    dsimp only
    by_cases c : (x : Int) < (b : Int)
    · rw [Nat.min_eq_left (by omega)] at i3
      obtain ⟨l', x', e, ho, hs⟩ := sortI_inner hless (by omega) hVm (show x < m.length by omega) (by omega) i3
      rw [if_pos c, e, bind_some']
      dsimp only
      rw [ck_some (inI_b (by omega) (by omega))]
      refine .inl ⟨_, rfl, ⟨i1.trans (ho.mono (Nat.le_refl _) (by omega)), by show (a : Int) + 1 ≤ (x : Int) + 1; omega, ?_⟩, by show ((b : Int) - ((x : Int) + 1)).toNat < ((b : Int) - (x : Int)).toNat; omega⟩
      show AscK κ a (min ((x : Int) + 1).toNat b) l'
      rw [show min ((x : Int) + 1).toNat b = x + 1 by omega]; exact hs
    · rw [if_neg c]
      rw [Nat.min_eq_right (by omega)] at i3
      exact .inr (.inl ⟨_, rfl, _, rfl, i1, i3⟩)) (n := 1000000000000000000) (s := (l, (a : Int) + 1)) ⟨.refl _, by show (a : Int) + 1 ≤ (a : Int) + 1; omega, fun p q h1 h2 h3 => by
      have : q < min ((a : Int) + 1).toNat b := h3
      omega⟩ (by show ((b : Int) - ((a : Int) + 1)).toNat < _; omega)
  unfold slices_insertionSortOrdered_int_F
  rw [ck_some (inI_b (by omega) (by omega)), e, bind_some']
  exact ⟨l', rfl, hq⟩

/-! ### heaps -/
theorem sortI_sift (hless : ∀ x y, V x → V y → ∃ r, cmp_Less_int_F x y = some r ∧ (r = true ↔ κ x < κ y)) {f lo hi : Nat} {l : List Int} (hl : l.length ≤ 100000000000000000) (hlo : lo ≤ 100000000000000000) (hV : AllV V l) (hf : f + hi ≤ l.length) (hx : HeapX κ f lo hi lo l) :
    ∃ l', slices_siftDownOrdered_int_F l (lo : Int) (hi : Int) (f : Int) = some l' ∧ Sw f (f + hi) l l' ∧ Heap κ f lo hi l' := by
  obtain ⟨q, e, hq⟩ := loopC_or (f := slices_siftDownOrdered_int_B1 (hi : Int) (f : Int)) (fun σ => Sw f (f + hi) l σ.1 ∧ ∃ x : Nat, σ.2 = (x : Int) ∧ lo ≤ x ∧ (x = lo ∨ x < hi) ∧ HeapX κ f lo hi x σ.1)
    (fun q => (∃ σ, q = .go σ ∧ Sw f (f + hi) l σ.1 ∧ Heap κ f lo hi σ.1) ∨ ∃ m, q = .ret m ∧ Sw f (f + hi) l m ∧ Heap κ f lo hi m) (fun σ => hi - σ.2.toNat) (fun σ ⟨i1, x, i2, i3, i4, i5⟩ => by
    obtain ⟨m, y⟩ := σ
    dsimp only at i1 i2 i5
    subst i2
    have hlen := i1.len
    have hVm := hV.sw i1 hf
    unfold slices_siftDownOrdered_int_B1
    dsimp only
    rw [ck_some (inI_b (by omega) (by omega)), ck_some (inI_b (by omega) (by omega))]
    by_cases c : (hi : Int) ≤ (2 * (x : Int)) + 1
    · rw [if_pos c]
      exact .inr (.inl ⟨_, rfl, .inl ⟨_, rfl, i1, i5.done fun c' h1 h2 h3 => by omega⟩⟩)
    rw [if_neg c]
    obtain ⟨ch, ec, c1, c2, c3, c4⟩ : ∃ ch : Nat, ((ck (InI (((2 * (x : Int)) + 1) + 1)) <| if (((2 * (x : Int)) + 1) + 1) < (hi : Int) then
        ck (InI ((f : Int) + ((2 * (x : Int)) + 1))) <| ck (0 ≤ ((f : Int) + ((2 * (x : Int)) + 1)) ∧ ((f : Int) + ((2 * (x : Int)) + 1)) < ((m.length : Nat) : Int)) <| ck (InI (((f : Int) + ((2 * (x : Int)) + 1)) + 1)) <|
        ck (0 ≤ (((f : Int) + ((2 * (x : Int)) + 1)) + 1) ∧ (((f : Int) + ((2 * (x : Int)) + 1)) + 1) < ((m.length : Nat) : Int)) <|
        (cmp_Less_int_F (m.getD (((f : Int) + ((2 * (x : Int)) + 1)).toNat) (0 : Int)) (m.getD ((((f : Int) + ((2 * (x : Int)) + 1)) + 1).toNat) (0 : Int))).bind fun r => if r = true then some (((2 * (x : Int)) + 1) + 1) else some ((2 * (x : Int)) + 1)
        else some ((2 * (x : Int)) + 1)) : Option Int) = some (ch : Int) ∧ 0 < ch ∧ ch < hi ∧ (ch - 1) / 2 = x ∧ ∀ c, 0 < c → c < hi → (c - 1) / 2 = x → κ (m.getD (f + c) 0) ≤ κ (m.getD (f + ch) 0) := by
      rw [ck_some (inI_b (by omega) (by omega))]
      by_cases d : (((2 * (x : Int)) + 1) + 1) < (hi : Int)
      · have e1 : ((f : Int) + ((2 * (x : Int)) + 1)).toNat = f + (2 * x + 1) := by omega
        have e2 : (((f : Int) + ((2 * (x : Int)) + 1)) + 1).toNat = f + (2 * x + 2) := by omega
        obtain ⟨r, er, hr⟩ := hless (m.getD (f + (2 * x + 1)) 0) (m.getD (f + (2 * x + 2)) 0) (hVm _ (by omega)) (hVm _ (by omega))
        rw [if_pos d, ck_some (inI_b (by omega) (by omega)), ck_some (by omega), ck_some (inI_b (by omega) (by omega)), ck_some (by omega), e1, e2, er, bind_some']
        by_cases z : κ (m.getD (f + (2 * x + 1)) 0) < κ (m.getD (f + (2 * x + 2)) 0)
        · rw [if_pos (hr.2 z)]
          refine ⟨2 * x + 2, congrArg some (by omega), by omega, by omega, by omega, fun c h1 h2 h3 => ?_⟩
          have : c = 2 * x + 1 ∨ c = 2 * x + 2 := by omega
          rcases this with w | w
          · subst w; omega
          · subst w; exact Int.le_refl _
        · rw [if_neg fun w => z (hr.1 w)]
          refine ⟨2 * x + 1, congrArg some (by omega), by omega, by omega, by omega, fun c h1 h2 h3 => ?_⟩
          have : c = 2 * x + 1 ∨ c = 2 * x + 2 := by omega
          rcases this with w | w
          · subst w; exact Int.le_refl _
          · subst w; omega
      · rw [if_neg d]
        refine ⟨2 * x + 1, congrArg some (by omega), by omega, by omega, by omega, fun c h1 h2 h3 => ?_⟩
        have w : c = 2 * x + 1 := by omega
        subst w; exact Int.le_refl _
    rw [ec, bind_some']
    have e1 : ((f : Int) + (x : Int)).toNat = f + x := by omega
    have e2 : ((f : Int) + (ch : Int)).toNat = f + ch := by omega
    obtain ⟨r, er, hr⟩ := hless (m.getD (f + x) 0) (m.getD (f + ch) 0) (hVm _ (by omega)) (hVm _ (by omega))
    rw [ck_some (inI_b (by omega) (by omega)), ck_some (by omega), ck_some (inI_b (by omega) (by omega)), ck_some (by omega), e1, e2, er, bind_some']
    by_cases z : κ (m.getD (f + x) 0) < κ (m.getD (f + ch) 0)
    · rw [if_neg (sortI_n hr z)]
      refine .inl ⟨_, rfl, ⟨i1.step ⟨by omega, by omega⟩ ⟨by omega, by omega⟩, ch, rfl, by omega, .inr c2, i5.step i3 (by omega) c1 c2 c3 (by omega) c4⟩, ?_⟩
      show hi - ((ch : Nat) : Int).toNat < hi - ((x : Nat) : Int).toNat
      omega
    · rw [if_pos (sortI_p hr z)]
      exact .inr (.inr ⟨_, rfl, .inr ⟨_, rfl, i1, i5.done fun c h1 h2 h3 => by have := c4 c h1 h2 h3; omega⟩⟩)) (n := 1000000000000000000) (s := (l, (lo : Int))) ⟨.refl _, lo, rfl, Nat.le_refl _, .inl rfl, hx⟩ (by show hi - ((lo : Nat) : Int).toNat < _; omega)
  unfold slices_siftDownOrdered_int_F
  rw [e, bind_some']
  rcases hq with ⟨σ, rfl, h1, h2⟩ | ⟨m, rfl, h1, h2⟩
  · exact ⟨_, rfl, h1, h2⟩
  · exact ⟨_, rfl, h1, h2⟩
theorem sortI_heap (hless : ∀ x y, V x → V y → ∃ r, cmp_Less_int_F x y = some r ∧ (r = true ↔ κ x < κ y)) {a b : Nat} {l : List Int} (hl : l.length ≤ 100000000000000000) (hV : AllV V l) (hb : b ≤ l.length) (hab : a < b) : ∃ l', slices_heapSortOrdered_int_F l (a : Int) (b : Int) = some l' ∧ Sw a b l l' ∧ AscK κ a b l' := by
  obtain ⟨n, rfl⟩ : ∃ n, b = a + (n + 1) := ⟨b - a - 1, by omega⟩
  have en : ((a + (n + 1) : Nat) : Int) - (a : Int) = ((n + 1 : Nat) : Int) := by omega
  have en1 : ((n + 1 : Nat) : Int) - 1 = (n : Int) := by omega
  obtain ⟨q, e, σ1, rfl, p1, p2⟩ := loopC_or (f := slices_heapSortOrdered_int_B1 (a : Int) ((a + (n + 1) : Nat) : Int)) (fun σ => Sw a (a + (n + 1)) l σ.1 ∧ -1 ≤ σ.2 ∧ σ.2 ≤ n ∧ Heap κ a (σ.2 + 1).toNat (n + 1) σ.1)
    (fun q => ∃ σ, q = .go σ ∧ Sw a (a + (n + 1)) l σ.1 ∧ Heap κ a 0 (n + 1) σ.1) (fun σ => (σ.2 + 1).toNat) (fun σ ⟨i1, i2, i3, i4⟩ => by
    obtain ⟨m, y⟩ := σ
    dsimp only at i1 i2 i3 i4
    have hlen := i1.len
    have hVm := hV.sw i1 hb
    unfold slices_heapSortOrdered_int_B1
    dsimp only
    by_cases c : 0 ≤ y
    · obtain ⟨x, rfl⟩ := Int.eq_ofNat_of_zero_le c
      rw [show ((x : Int) + 1).toNat = x + 1 by omega] at i4
      obtain ⟨l', e, h1, h2⟩ := sortI_sift hless (f := a) (lo := x) (hi := n + 1) (by omega) (by omega) hVm (by omega) (HeapX.begin i4)
      rw [if_pos c, en, e, bind_some', ck_some (by rw [h1.len]), ck_some (inI_b (by omega) (by omega))]
      refine .inl ⟨_, rfl, ⟨i1.trans h1, by show -1 ≤ (x : Int) - 1; omega, by show (x : Int) - 1 ≤ n; omega, ?_⟩, by show ((x : Int) - 1 + 1).toNat < ((x : Int) + 1).toNat; omega⟩
      show Heap κ a ((x : Int) - 1 + 1).toNat (n + 1) l'
      rw [show ((x : Int) - 1 + 1).toNat = x by omega]; exact h2
    · rw [if_neg c]
      rw [show (y + 1).toNat = 0 by omega] at i4
      exact .inr (.inl ⟨_, rfl, _, rfl, i1, i4⟩)) (n := 1000000000000000000) (s := (l, ((n / 2 : Nat) : Int))) ⟨.refl _, by show -1 ≤ ((n / 2 : Nat) : Int); omega, by show ((n / 2 : Nat) : Int) ≤ n; omega, fun c h1 h2 h3 => by
      have : (((n / 2 : Nat) : Int) + 1).toNat ≤ (c - 1) / 2 := h3
      omega⟩ (by show (((n / 2 : Nat) : Int) + 1).toNat < _; omega)
  have hlen1 := p1.len
  have hV1 := hV.sw p1 hb
  obtain ⟨q2, e2, σ2, rfl, p3, p4⟩ := loopC_or (f := slices_heapSortOrdered_int_B2 (a : Int)) (fun σ => Sw a (a + (n + 1)) σ1.1 σ.1 ∧ -1 ≤ σ.2 ∧ σ.2 ≤ n ∧ Heap κ a 0 (σ.2 + 1).toNat σ.1 ∧ AscK κ (a + (σ.2 + 1).toNat) (a + (n + 1)) σ.1 ∧
      ∀ p q, a ≤ p → p < a + (σ.2 + 1).toNat → a + (σ.2 + 1).toNat ≤ q → q < a + (n + 1) → κ (σ.1.getD p 0) ≤ κ (σ.1.getD q 0))
    (fun q => ∃ σ, q = .go σ ∧ Sw a (a + (n + 1)) σ1.1 σ.1 ∧ AscK κ a (a + (n + 1)) σ.1) (fun σ => (σ.2 + 1).toNat) (fun σ ⟨i1, i2, i3, i4, i5, i6⟩ => by
    obtain ⟨m, y⟩ := σ
    dsimp only at i1 i2 i3 i4 i5 i6
    have hlen := i1.len
    have hVm := hV1.sw i1 (by omega)
    unfold slices_heapSortOrdered_int_B2
    dsimp only
    by_cases c : 0 ≤ y
    · obtain ⟨x, rfl⟩ := Int.eq_ofNat_of_zero_le c
      rw [show ((x : Int) + 1).toNat = x + 1 by omega] at i4 i5 i6
      have e1 : ((a : Int) + (x : Int)).toNat = a + x := by omega
      have hs := swapL_getD (l := m) (i := a) (j := a + x) (by omega) (by omega)
      have sw1 : Sw a (a + (n + 1)) m (swapL m a (a + x)) := (Sw.refl m).step ⟨by omega, by omega⟩ ⟨by omega, by omega⟩
      have hX : HeapX κ a 0 x 0 (swapL m a (a + x)) := by
        refine ⟨fun c h1 h2 h3 h4 => ?_, fun c h1 h2 h3 h4 h5 => by omega⟩
        rw [hs, hs]
        unfold swapJ
        rw [if_neg (by omega), if_neg (by omega), if_neg (by omega), if_neg (by omega)]
        exact i4 c h1 (by omega) h3
      obtain ⟨l', e, h1, h2⟩ := sortI_sift hless (f := a) (lo := 0) (hi := x) (l := swapL m a (a + x)) (by rw [swapL_len]; omega) (by omega) (hVm.sw sw1 (by omega)) (by rw [swapL_len]; omega) hX
      have e' : slices_siftDownOrdered_int_F ((m.set a (m.getD (a + x) 0)).set (a + x) (m.getD a 0)) 0 (x : Int) (a : Int) = some l' := e
      have hl' : l'.length = m.length := by rw [h1.len, swapL_len]
      rw [if_pos c, ck_some (inI_b (by omega) (by omega)), ck_some (by omega), ck_some (by omega), e1, Int.toNat_natCast, e', bind_some', ck_some hl', ck_some (inI_b (by omega) (by omega))]
      -- what stands where
      have top : (swapL m a (a + x)).getD (a + x) 0 = m.getD a 0 := by rw [hs]; unfold swapJ; rw [if_pos rfl]
      have end' : ∀ p, a + x ≤ p → l'.getD p 0 = (swapL m a (a + x)).getD p 0 := fun p hp => h1.out (.inr hp) (by rw [swapL_len]; omega)
      have far : ∀ p, a + (x + 1) ≤ p → l'.getD p 0 = m.getD p 0 := fun p hp => by
        rw [end' p (by omega), hs]; unfold swapJ; rw [if_neg (by omega), if_neg (by omega)]
      have low : ∀ p, a ≤ p → p < a + x → ∃ r, a ≤ r ∧ r < a + (x + 1) ∧ l'.getD p 0 = m.getD r 0 := fun p h3 h4 => by
        obtain ⟨r, r1, r2, r3⟩ := h1.from (by rw [swapL_len]; omega) p h3 h4
        rw [r3, hs]
        unfold swapJ
        rw [if_neg (by omega)]
        by_cases z : r = a
        · rw [if_pos z]; exact ⟨a + x, by omega, by omega, rfl⟩
        · rw [if_neg z]; exact ⟨r, r1, by omega, rfl⟩
      have hmax : ∀ r, a ≤ r → r < a + (x + 1) → κ (m.getD r 0) ≤ κ (m.getD a 0) := fun r h3 h4 => by
        have := i4.max (r - a) (by omega)
        rwa [show a + (r - a) = r by omega] at this
      refine .inl ⟨_, rfl, ⟨(i1.trans sw1).trans (h1.mono (Nat.le_refl _) (by omega)), by show -1 ≤ (x : Int) - 1; omega, by show (x : Int) - 1 ≤ n; omega, ?_⟩, by show ((x : Int) - 1 + 1).toNat < ((x : Int) + 1).toNat; omega⟩
      show Heap κ a 0 ((x : Int) - 1 + 1).toNat l' ∧ AscK κ (a + ((x : Int) - 1 + 1).toNat) (a + (n + 1)) l' ∧ ∀ p q, a ≤ p → p < a + ((x : Int) - 1 + 1).toNat → a + ((x : Int) - 1 + 1).toNat ≤ q → q < a + (n + 1) → κ (l'.getD p 0) ≤ κ (l'.getD q 0)
      rw [show ((x : Int) - 1 + 1).toNat = x by omega]
      refine ⟨h2, fun p q h3 h4 h5 => ?_, fun p q h3 h4 h5 h6 => ?_⟩
      · rw [far q (by omega)]
        by_cases z : p = a + x
        · rw [z, end' _ (Nat.le_refl _), top]; exact i6 a q (Nat.le_refl _) (by omega) (by omega) h5
        · rw [far p (by omega)]; exact i5 p q (by omega) h4 h5
      · obtain ⟨r, r1, r2, r3⟩ := low p h3 h4
        rw [r3]
        by_cases z : q = a + x
        · rw [z, end' _ (Nat.le_refl _), top]; exact hmax r r1 r2
        · rw [far q (by omega)]; exact i6 r q r1 r2 (by omega) h6
    · rw [if_neg c]
      rw [show (y + 1).toNat = 0 by omega, Nat.add_zero] at i5
      exact .inr (.inl ⟨_, rfl, _, rfl, i1, i5⟩)) (n := 1000000000000000000) (s := (σ1.1, (n : Int))) ⟨.refl _, by show -1 ≤ (n : Int); omega, by show (n : Int) ≤ n; omega, by show Heap κ a 0 ((n : Int) + 1).toNat _; rw [show ((n : Int) + 1).toNat = n + 1 by omega]; exact p2, fun p q h1 h2 h3 => by
      have : a + ((n : Int) + 1).toNat ≤ p := h1
      omega, fun p q h1 h2 h3 h4 => by
      have : a + ((n : Int) + 1).toNat ≤ q := h3
      omega⟩ (by show ((n : Int) + 1).toNat < _; omega)
  unfold slices_heapSortOrdered_int_F
  rw [ck_some (inI_b (by omega) (by omega)), ck_some (inI_b (by omega) (by omega)), en, en1, tdiv2, ck_some (inI_b (by omega) (by omega)), e, bind_some']
  dsimp only
  rw [e2, bind_some']
  exact ⟨_, rfl, p1.trans p3, p4⟩
/-! ### what only changes entries over -/
theorem sortI_break {a n : Nat} {l : List Int} (hl : l.length ≤ 100000000000000000) (hb : a + n ≤ l.length) (hn : 8 ≤ n) : ∃ l', slices_breakPatternsOrdered_int_F l (a : Int) ((a + n : Nat) : Int) = some l' ∧ Sw a (a + n) l l' := by
  have en : ((a + n : Nat) : Int) - (a : Int) = (n : Int) := by omega
  have h2 := blen_le (n := n) (by omega)
  have h1 := blen_lt n
  have hnx := next_eq (n := n) (by omega)
  generalize 2 ^ blen n = q at h1 h2 hnx
  have eq1 : IntKind.u64.wrap (((q : Nat) : Int) - 1) = ((q - 1 : Nat) : Int) := by
    rw [show ((q : Nat) : Int) - 1 = ((q - 1 : Nat) : Int) by omega, u64_small (by omega) (by omega)]
  obtain ⟨r, e, σ, rfl, hq⟩ := loopC_or (f := slices_breakPatternsOrdered_int_B1 (a : Int) ((a + n : Nat) : Int) ((q : Nat) : Int)) (fun σ => Sw a (a + n) l σ.1 ∧ (a : Int) + 3 ≤ σ.2.2) (fun r => ∃ σ, r = .go σ ∧ Sw a (a + n) l σ.1) (fun σ => ((a : Int) + (n : Int) - σ.2.2).toNat) (fun σ ⟨i1, i2⟩ => by
    obtain ⟨m, x, i⟩ := σ
    dsimp only at i1 i2
    have hlen := i1.len
    unfold slices_breakPatternsOrdered_int_B1
    dsimp only
    rw [en, tdiv4, ck_some (inI_b (by omega) (by omega))]
    by_cases c : i ≤ (a : Int) + ((n / 4 : Nat) : Int) * 2 + 1
    · obtain ⟨w, y, ew⟩ := nextR_eq x
      rw [if_pos c, ew, bind_some']
      dsimp only
      rw [eq1]
      have hw := and_le w (m := q - 1) (by omega)
      generalize IntKind.i64.wrap (bitsOf .and .u64 w ((q - 1 : Nat) : Int)) = z at hw ⊢
      by_cases d : (n : Int) ≤ z
      · rw [if_pos d, ck_some (inI_b (by omega) (by omega)), bind_some', ck_some (inI_b (by omega) (by omega)), ck_some (by omega), ck_some (by omega), ck_some (inI_b (by omega) (by omega))]
        exact .inl ⟨_, rfl, ⟨i1.step ⟨by omega, by omega⟩ ⟨by omega, by omega⟩, by dsimp only; omega⟩, by dsimp only; omega⟩
      · rw [if_neg d, bind_some', ck_some (inI_b (by omega) (by omega)), ck_some (by omega), ck_some (by omega), ck_some (inI_b (by omega) (by omega))]
        exact .inl ⟨_, rfl, ⟨i1.step ⟨by omega, by omega⟩ ⟨by omega, by omega⟩, by dsimp only; omega⟩, by dsimp only; omega⟩
    · rw [if_neg c]
      exact .inr (.inl ⟨_, rfl, _, rfl, i1⟩)) (n := 1000000000000000000) (s := (l, IntKind.u64.wrap (n : Int), ((a : Int) + ((n / 4 : Nat) : Int) * 2) - 1)) ⟨.refl _, by dsimp only; omega⟩ (by dsimp only; omega)
  unfold slices_breakPatternsOrdered_int_F
  rw [en, ck_some (inI_b (by omega) (by omega)), if_pos (by omega), hnx, bind_some', tdiv4, ck_some (inI_b (by omega) (by omega)), ck_some (inI_b (by omega) (by omega)), ck_some (inI_b (by omega) (by omega)), ck_some (inI_b (by omega) (by omega)), e, bind_some']
  exact ⟨_, rfl, hq⟩
theorem sortI_order2 (hless : ∀ x y, V x → V y → ∃ r, cmp_Less_int_F x y = some r ∧ (r = true ↔ κ x < κ y)) {l : List Int} (hV : AllV V l) {p1 p2 s : Int} (h1 : 0 ≤ p1 ∧ p1 < l.length) (h2 : 0 ≤ p2 ∧ p2 < l.length) (hs : 0 ≤ s ∧ s ≤ 100) :
    ∃ x y s', slices_order2Ordered_int_F l p1 p2 s = some (x, y, s') ∧ (x = p1 ∧ y = p2 ∨ x = p2 ∧ y = p1) ∧ s ≤ s' ∧ s' ≤ s + 1 := by
  unfold slices_order2Ordered_int_F
  obtain ⟨r, er, hr⟩ := hless (l.getD p2.toNat 0) (l.getD p1.toNat 0) (hV _ (by omega)) (hV _ (by omega))
  rw [ck_some h2, ck_some h1, er, bind_some']
  by_cases z : κ (l.getD p2.toNat 0) < κ (l.getD p1.toNat 0)
  · rw [if_pos (hr.2 z), ck_some (inI_b (by omega) (by omega))]
    exact ⟨_, _, _, rfl, .inr ⟨rfl, rfl⟩, by omega, by omega⟩
  · rw [if_neg fun w => z (hr.1 w)]
    exact ⟨_, _, _, rfl, .inl ⟨rfl, rfl⟩, by omega, by omega⟩
theorem sortI_median (hless : ∀ x y, V x → V y → ∃ r, cmp_Less_int_F x y = some r ∧ (r = true ↔ κ x < κ y)) {l : List Int} (hV : AllV V l) {lo hi : Int} (h0 : 0 ≤ lo) (hh : hi ≤ l.length) {p1 p2 p3 s : Int} (h1 : lo ≤ p1 ∧ p1 < hi) (h2 : lo ≤ p2 ∧ p2 < hi) (h3 : lo ≤ p3 ∧ p3 < hi) (hs : 0 ≤ s ∧ s ≤ 90) :
    ∃ x s', slices_medianOrdered_int_F l p1 p2 p3 s = some (x, s') ∧ (lo ≤ x ∧ x < hi) ∧ s ≤ s' ∧ s' ≤ s + 3 := by
  unfold slices_medianOrdered_int_F
  obtain ⟨x1, y1, s1, e1, c1, b1, b1'⟩ := sortI_order2 hless hV (p1 := p1) (p2 := p2) (s := s) (by omega) (by omega) (by omega)
  obtain ⟨x2, y2, s2, e2, c2, b2, b2'⟩ := sortI_order2 hless hV (p1 := y1) (p2 := p3) (s := s1) (by omega) (by omega) (by omega)
  obtain ⟨x3, y3, s3, e3, c3, b3, b3'⟩ := sortI_order2 hless hV (p1 := x1) (p2 := x2) (s := s2) (by omega) (by omega) (by omega)
  rw [e1, bind_some']
  dsimp only
  rw [e2, bind_some']
  dsimp only
  rw [e3, bind_some']
  exact ⟨y3, s3, rfl, by omega, by omega, by omega⟩
theorem sortI_adj (hless : ∀ x y, V x → V y → ∃ r, cmp_Less_int_F x y = some r ∧ (r = true ↔ κ x < κ y)) {l : List Int} (hl : l.length ≤ 100000000000000000) (hV : AllV V l) {lo hi : Int} (h0 : 0 ≤ lo) (hh : hi ≤ l.length) {p s : Int} (h1 : lo < p ∧ p + 1 < hi) (hs : 0 ≤ s ∧ s ≤ 90) :
    ∃ x s', slices_medianAdjacentOrdered_int_F l p s = some (x, s') ∧ (lo ≤ x ∧ x < hi) ∧ s ≤ s' ∧ s' ≤ s + 3 := by
  unfold slices_medianAdjacentOrdered_int_F
  obtain ⟨x, s', e, h⟩ := sortI_median hless hV h0 hh (p1 := p - 1) (p2 := p) (p3 := p + 1) (s := s) (by omega) (by omega) (by omega) hs
  rw [ck_some (inI_b (by omega) (by omega)), ck_some (inI_b (by omega) (by omega)), e, bind_some']
  exact ⟨_, _, rfl, h⟩
theorem sortI_pivot (hless : ∀ x y, V x → V y → ∃ r, cmp_Less_int_F x y = some r ∧ (r = true ↔ κ x < κ y)) {a n : Nat} {l : List Int} (hl : l.length ≤ 100000000000000000) (hV : AllV V l) (hb : a + n ≤ l.length) (hn : 8 ≤ n) :
    ∃ (p : Nat) (h : Int), slices_choosePivotOrdered_int_F l (a : Int) ((a + n : Nat) : Int) = some ((p : Int), h) ∧ a ≤ p ∧ p < a + n := by
  have en : ((a + n : Nat) : Int) - (a : Int) = (n : Int) := by omega
  unfold slices_choosePivotOrdered_int_F
  rw [en, tdiv4]
  rw [ck_some (inI_b (by omega) (by omega)), ck_some (inI_b (by omega) (by omega)), ck_some (inI_b (by omega) (by omega)), ck_some (inI_b (by omega) (by omega)), ck_some (inI_b (by omega) (by omega)), ck_some (inI_b (by omega) (by omega)), ck_some (inI_b (by omega) (by omega)), ck_some (inI_b (by omega) (by omega)), if_pos (by omega)]
  have fin : ∀ x s : Int, (a : Int) ≤ x → x < (a : Int) + n → ∃ (p : Nat) (h : Int), (if s = 0 then some (x, 1) else if s = 12 then some (x, 2) else some (x, 0)) = some ((p : Int), h) ∧ a ≤ p ∧ p < a + n := fun x s h1 h2 => by
    obtain ⟨p, rfl⟩ := Int.eq_ofNat_of_zero_le (show 0 ≤ x by omega)
    by_cases c1 : s = 0
    · rw [if_pos c1]; exact ⟨p, 1, rfl, by omega, by omega⟩
    · by_cases c2 : s = 12
      · rw [if_neg c1, if_pos c2]; exact ⟨p, 2, rfl, by omega, by omega⟩
      · rw [if_neg c1, if_neg c2]; exact ⟨p, 0, rfl, by omega, by omega⟩
  by_cases c : 50 ≤ (n : Int)
  · obtain ⟨x1, s1, e1, c1, b1, b1'⟩ := sortI_adj hless hl hV (lo := a) (hi := (a : Int) + n) (p := (a : Int) + ((n / 4 : Nat) : Int) * 1) (s := 0) (by omega) (by omega) (by omega) (by omega)
    obtain ⟨x2, s2, e2, c2, b2, b2'⟩ := sortI_adj hless hl hV (lo := a) (hi := (a : Int) + n) (p := (a : Int) + ((n / 4 : Nat) : Int) * 2) (s := s1) (by omega) (by omega) (by omega) (by omega)
    obtain ⟨x3, s3, e3, c3, b3, b3'⟩ := sortI_adj hless hl hV (lo := a) (hi := (a : Int) + n) (p := (a : Int) + ((n / 4 : Nat) : Int) * 3) (s := s2) (by omega) (by omega) (by omega) (by omega)
    obtain ⟨x4, s4, e4, c4, b4, b4'⟩ := sortI_median hless hV (lo := a) (hi := (a : Int) + n) (by omega) (by omega) (p1 := x1) (p2 := x2) (p3 := x3) (s := s3) c1 c2 c3 (by omega)
    rw [if_pos c, e1, bind_some']
    dsimp only
    rw [e2, bind_some']
    dsimp only
    rw [e3, bind_some']
    dsimp only
    rw [bind_some']
    dsimp only
    rw [e4, bind_some']
    dsimp only
    rw [bind_some']
    exact fin x4 s4 c4.1 c4.2
  · obtain ⟨x4, s4, e4, c4, b4, b4'⟩ := sortI_median hless hV (lo := a) (hi := (a : Int) + n) (by omega) (by omega) (p1 := (a : Int) + ((n / 4 : Nat) : Int) * 1) (p2 := (a : Int) + ((n / 4 : Nat) : Int) * 2) (p3 := (a : Int) + ((n / 4 : Nat) : Int) * 3) (s := 0) (by omega) (by omega) (by omega) (by omega)
    rw [if_neg c, bind_some']
    dsimp only
    rw [e4, bind_some']
    dsimp only
    rw [bind_some']
    exact fin x4 s4 c4.1 c4.2
theorem sortI_rev {a b : Nat} {l : List Int} (hl : l.length ≤ 100000000000000000) (hb : b ≤ l.length) (hab : a ≤ b) : ∃ l', slices_reverseRangeOrdered_int_F l (a : Int) (b : Int) = some l' ∧ Sw a b l l' := by
  obtain ⟨r, e, σ, rfl, hq⟩ := loopC_or (f := slices_reverseRangeOrdered_int_B1) (fun σ => Sw a b l σ.1 ∧ (a : Int) ≤ σ.2.1 ∧ σ.2.2 < (b : Int)) (fun r => ∃ σ, r = .go σ ∧ Sw a b l σ.1) (fun σ => (σ.2.2 - σ.2.1).toNat) (fun σ ⟨i1, i2, i3⟩ => by
    obtain ⟨m, i, j⟩ := σ
    dsimp only at i1 i2 i3
    have hlen := i1.len
    unfold slices_reverseRangeOrdered_int_B1
    dsimp only
    by_cases c : i < j
    · rw [if_pos c, ck_some (by omega), ck_some (by omega), ck_some (inI_b (by omega) (by omega)), ck_some (inI_b (by omega) (by omega))]
      exact .inl ⟨_, rfl, ⟨i1.step ⟨by omega, by omega⟩ ⟨by omega, by omega⟩, by dsimp only; omega, by dsimp only; omega⟩, by dsimp only; omega⟩
    · rw [if_neg c]
      exact .inr (.inl ⟨_, rfl, _, rfl, i1⟩)) (n := 1000000000000000000) (s := (l, (a : Int), (b : Int) - 1)) ⟨.refl _, by dsimp only; omega, by dsimp only; omega⟩ (by dsimp only; omega)
  unfold slices_reverseRangeOrdered_int_F
  rw [ck_some (inI_b (by omega) (by omega)), e, bind_some']
  exact ⟨_, rfl, hq⟩
/-! ### almost in order -/
theorem sortI_pscan (hless : ∀ x y, V x → V y → ∃ r, cmp_Less_int_F x y = some r ∧ (r = true ↔ κ x < κ y)) {a b x : Nat} {l : List Int} (hl : l.length ≤ 100000000000000000) (hV : AllV V l) (hb : b ≤ l.length) (hax : a < x) (hxb : x ≤ b) (hs : AscK κ a x l) :
    ∃ y : Nat, loopC (slices_partialInsertionSortOrdered_int_B2 (b : Int) l) 1000000000000000000 (x : Int) = some (.go (y : Int)) ∧ x ≤ y ∧ y ≤ b ∧ AscK κ a y l := by
  obtain ⟨r, e, y, rfl, hq⟩ := loopC_or (f := slices_partialInsertionSortOrdered_int_B2 (b : Int) l) (fun s => ∃ y : Nat, s = (y : Int) ∧ x ≤ y ∧ y ≤ b ∧ AscK κ a y l) (fun r => ∃ y : Nat, r = .go (y : Int) ∧ x ≤ y ∧ y ≤ b ∧ AscK κ a y l) (fun s => ((b : Int) - s).toNat) (fun s ⟨y, i0, i1, i2, i3⟩ => by
    subst i0
    unfold slices_partialInsertionSortOrdered_int_B2
    by_cases c : (y : Int) < (b : Int)
    · have e1 : ((y : Int) - 1).toNat = y - 1 := by omega
      obtain ⟨r, er, hr⟩ := hless (l.getD y 0) (l.getD (y - 1) 0) (hV _ (by omega)) (hV _ (by omega))
      rw [if_pos c, ck_some (by omega), ck_some (inI_b (by omega) (by omega)), ck_some (by omega), e1, Int.toNat_natCast, er, bind_some']
      by_cases z : κ (l.getD y 0) < κ (l.getD (y - 1) 0)
      · rw [if_neg (sortI_n hr z)]
        exact .inr (.inl ⟨_, rfl, y, rfl, i1, i2, i3⟩)
      · rw [if_pos (sortI_p hr z), ck_some (inI_b (by omega) (by omega))]
        refine .inl ⟨_, rfl, ⟨y + 1, by omega, by omega, by omega, asc_adj fun p h1 h2 => ?_⟩, by omega⟩
        by_cases w : p = y
        · rw [w]; omega
        · exact i3 (p - 1) p (by omega) (by omega) (by omega)
    · rw [if_neg c]
      exact .inr (.inl ⟨_, rfl, y, rfl, i1, i2, i3⟩)) (n := 1000000000000000000) (s := (x : Int)) ⟨x, rfl, Nat.le_refl _, hxb, hs⟩ (by omega)
  exact ⟨y, e, hq⟩
theorem sortI_pleft (hless : ∀ x y, V x → V y → ∃ r, cmp_Less_int_F x y = some r ∧ (r = true ↔ κ x < κ y)) {a x : Nat} {l : List Int} (hl : l.length ≤ 100000000000000000) (hV : AllV V l) (hx : x < l.length) (hax : a ≤ x) (hf : Fen κ a (x + 1) l) (hs : AscK κ a x l) :
    ∃ l' x', loopC (slices_partialInsertionSortOrdered_int_B3) 1000000000000000000 (l, (x : Int)) = some (.go (l', x')) ∧ Sw a (x + 1) l l' ∧ AscK κ a (x + 1) l' := by
  obtain ⟨q, e, ⟨l', x'⟩, rfl, hq⟩ := loopC_or (f := slices_partialInsertionSortOrdered_int_B3) (fun σ => Sw a (x + 1) l σ.1 ∧ (a : Int) ≤ σ.2 ∧ σ.2 ≤ x ∧ InsK κ a x σ.2.toNat σ.1) (fun q => ∃ σ, q = .go σ ∧ Sw a (x + 1) l σ.1 ∧ AscK κ a (x + 1) σ.1) (fun σ => σ.2.toNat) (fun σ ⟨i1, i2, i3, i4⟩ => by
    obtain ⟨m, y⟩ := σ
    dsimp only at i1 i2 i3 i4
    have hlen := i1.len
    have hVm := hV.sw i1 (by omega)
    have hfm := hf.sw i1 (by omega)
    obtain ⟨y, rfl⟩ := Int.eq_ofNat_of_zero_le (show 0 ≤ y by omega)
    rw [Int.toNat_natCast] at i4
    unfold slices_partialInsertionSortOrdered_int_B3
    dsimp only
    by_cases c : 1 ≤ (y : Int)
    · have ey : ((y : Int) - 1).toNat = y - 1 := by omega
      obtain ⟨r, er, hr⟩ := hless (m.getD y 0) (m.getD (y - 1) 0) (hVm y (by omega)) (hVm (y - 1) (by omega))
      rw [if_pos c, ck_some (by omega), ck_some (inI_b (by omega) (by omega)), ck_some (by omega), ey, Int.toNat_natCast, er, bind_some']
      by_cases c2 : κ (m.getD y 0) < κ (m.getD (y - 1) 0)
      · have hya : a < y := by
          refine Classical.byContradiction fun w => ?_
          have w' : y = a := by omega
          subst w'
          rcases hfm with hfm | hfm
          · omega
          · have := hfm y (Nat.le_refl _) (by omega); omega
        rw [if_neg (sortI_n hr c2)]
        exact .inl ⟨_, rfl, ⟨i1.step ⟨by omega, by omega⟩ ⟨by omega, by omega⟩, by show (a : Int) ≤ (y : Int) - 1; omega, by show (y : Int) - 1 ≤ _; omega, by
          show InsK κ a x ((y : Int) - 1).toNat _
          rw [ey]
          exact i4.step (by omega) (by omega) (by omega) (by omega)⟩, by show ((y : Int) - 1).toNat < ((y : Nat) : Int).toNat; omega⟩
      · rw [if_pos (sortI_p hr c2)]
        exact .inr (.inl ⟨_, rfl, _, rfl, i1, i4.done (.inr (by omega))⟩)
    · rw [if_neg c]
      exact .inr (.inl ⟨_, rfl, _, rfl, i1, i4.done (.inl (by omega))⟩)) (n := 1000000000000000000) (s := (l, (x : Int))) ⟨.refl _, by show (a : Int) ≤ x; omega, by show (x : Int) ≤ x; omega, by
      show InsK κ a x ((x : Int)).toNat l
      rw [Int.toNat_natCast]
      exact ⟨fun p q ha hpq hq hp1 hq1 => hs p q ha hpq (by omega), fun q h1 h2 => by omega⟩⟩ (by show ((x : Nat) : Int).toNat < _; omega)
  exact ⟨l', x', e, hq⟩
theorem sortI_pright (hless : ∀ x y, V x → V y → ∃ r, cmp_Less_int_F x y = some r ∧ (r = true ↔ κ x < κ y)) {b x : Nat} {l : List Int} (hl : l.length ≤ 100000000000000000) (hV : AllV V l) (hb : b ≤ l.length) (hx : 0 < x) (hxb : x ≤ b) :
    ∃ l' x', loopC (slices_partialInsertionSortOrdered_int_B4 (b : Int)) 1000000000000000000 (l, (x : Int)) = some (.go (l', x')) ∧ Sw (x - 1) b l l' := by
  obtain ⟨q, e, ⟨l', x'⟩, rfl, hq⟩ := loopC_or (f := slices_partialInsertionSortOrdered_int_B4 (b : Int)) (fun σ => Sw (x - 1) b l σ.1 ∧ (x : Int) ≤ σ.2) (fun q => ∃ σ, q = .go σ ∧ Sw (x - 1) b l σ.1) (fun σ => ((b : Int) - σ.2).toNat) (fun σ ⟨i1, i2⟩ => by
    obtain ⟨m, y⟩ := σ
    dsimp only at i1 i2
    have hlen := i1.len
    have hVm := hV.sw i1 hb
    obtain ⟨y, rfl⟩ := Int.eq_ofNat_of_zero_le (show 0 ≤ y by omega)
    unfold slices_partialInsertionSortOrdered_int_B4
    dsimp only
    by_cases c : (y : Int) < (b : Int)
    · have ey : ((y : Int) - 1).toNat = y - 1 := by omega
      obtain ⟨r, er, hr⟩ := hless (m.getD y 0) (m.getD (y - 1) 0) (hVm y (by omega)) (hVm (y - 1) (by omega))
      rw [if_pos c, ck_some (by omega), ck_some (inI_b (by omega) (by omega)), ck_some (by omega), ey, Int.toNat_natCast, er, bind_some']
      by_cases c2 : κ (m.getD y 0) < κ (m.getD (y - 1) 0)
      · rw [if_neg (sortI_n hr c2), ck_some (inI_b (by omega) (by omega))]
        exact .inl ⟨_, rfl, ⟨i1.step ⟨by omega, by omega⟩ ⟨by omega, by omega⟩, by dsimp only; omega⟩, by dsimp only; omega⟩
      · rw [if_pos (sortI_p hr c2)]
        exact .inr (.inl ⟨_, rfl, _, rfl, i1⟩)
    · rw [if_neg c]
      exact .inr (.inl ⟨_, rfl, _, rfl, i1⟩)) (n := 1000000000000000000) (s := (l, (x : Int))) ⟨.refl _, by dsimp only; omega⟩ (by dsimp only; omega)
  exact ⟨l', x', e, hq⟩
theorem sortI_partial (hless : ∀ x y, V x → V y → ∃ r, cmp_Less_int_F x y = some r ∧ (r = true ↔ κ x < κ y)) {a b : Nat} {l : List Int} (hl : l.length ≤ 100000000000000000) (hV : AllV V l) (hb : b ≤ l.length) (hab : a < b) (hf : Fen κ a b l) :
    ∃ (r : Bool) (l' : List Int), slices_partialInsertionSortOrdered_int_F l (a : Int) (b : Int) = some (r, l') ∧ Sw a b l l' ∧ (r = true → AscK κ a b l') := by
  obtain ⟨q, e, hq⟩ := loopC_or (f := slices_partialInsertionSortOrdered_int_B1 (a : Int) (b : Int)) (fun σ => Sw a b l σ.1 ∧ ∃ x : Nat, σ.2.1 = (x : Int) ∧ a < x ∧ x ≤ b ∧ AscK κ a x σ.1)
    (fun q => (∃ σ, q = .go σ ∧ Sw a b l σ.1) ∨ ∃ r l', q = .ret (r, l') ∧ Sw a b l l' ∧ (r = true → AscK κ a b l')) (fun σ => 5 - σ.2.2) (fun σ ⟨i1, x, i2, i3, i4, i5⟩ => by
    obtain ⟨m, y, n⟩ := σ
    dsimp only at i1 i2 i5
    subst i2
    have hlen := i1.len
    have hVm := hV.sw i1 hb
    have hfm := hf.sw i1 hb
    unfold slices_partialInsertionSortOrdered_int_B1
    dsimp only
    by_cases c : ((n : Nat) : Int) < 5
    · obtain ⟨y, e, y1, y2, y3⟩ := sortI_pscan hless (l := m) (by omega) hVm (show b ≤ m.length by omega) i3 i4 i5
      rw [if_pos c, e, bind_some']
      dsimp only
      by_cases c1 : (y : Int) = (b : Int)
      · rw [if_pos c1]
        have : y = b := by omega
        subst this
        exact .inr (.inr ⟨_, rfl, .inr ⟨_, _, rfl, i1, fun _ => y3⟩⟩)
      rw [if_neg c1, ck_some (inI_b (by omega) (by omega))]
      by_cases c2 : (b : Int) - (a : Int) < 50
      · rw [if_pos c2]
        exact .inr (.inr ⟨_, rfl, .inr ⟨_, _, rfl, i1, fun h => by cases h⟩⟩)
      have ey : ((y : Int) - 1).toNat = y - 1 := by omega
      rw [if_neg c2, ck_some (inI_b (by omega) (by omega)), ck_some (by omega), ck_some (by omega), ck_some (inI_b (by omega) (by omega)), ey, Int.toNat_natCast]
      -- the two changed over
      have s1 : Sw a b m (swapL m y (y - 1)) := (Sw.refl m).step ⟨by omega, by omega⟩ ⟨by omega, by omega⟩
      have es : (m.set y (m.getD (y - 1) 0)).set (y - 1) (m.getD y 0) = swapL m y (y - 1) := rfl
      have asc1 : AscK κ a (y - 1) (swapL m y (y - 1)) := fun p q h1 h2 h3 => by
        rw [swapL_getD (by omega) (by omega), swapL_getD (by omega) (by omega)]
        unfold swapJ
        rw [if_neg (by omega), if_neg (by omega), if_neg (by omega), if_neg (by omega)]
        exact y3 p q h1 h2 (by omega)
      rw [es]
      by_cases c3 : 2 ≤ (y : Int) - (a : Int)
      · obtain ⟨m2, x2, e2, s2', a2⟩ := sortI_pleft hless (a := a) (x := y - 1) (l := swapL m y (y - 1)) (by rw [swapL_len]; omega) (hVm.sw s1 (by omega)) (by rw [swapL_len]; omega) (by omega) ((hfm.sw s1 (by omega)).mono (by omega)) asc1
        rw [show ((y - 1 : Nat) : Int) = (y : Int) - 1 by omega] at e2
        rw [if_pos c3, e2, bind_some']
        dsimp only
        rw [bind_some']
        rw [show y - 1 + 1 = y by omega] at s2' a2
        have s2 : Sw a b (swapL m y (y - 1)) m2 := s2'.mono (Nat.le_refl _) (by omega)
        have asc2 : AscK κ a y m2 := a2
        rw [ck_some (inI_b (by omega) (by omega))]
        have s12 := s1.trans s2
        have hl2 := s12.len
        by_cases c4 : 2 ≤ (b : Int) - (y : Int)
        · obtain ⟨m3, x3, e3, s3⟩ := sortI_pright hless (b := b) (x := y + 1) (l := m2) (by omega) (hVm.sw s12 (by omega)) (by omega) (by omega) (by omega)
          rw [show ((y + 1 : Nat) : Int) = (y : Int) + 1 by omega] at e3
          rw [if_pos c4, ck_some (inI_b (by omega) (by omega)), e3, bind_some']
          dsimp only
          rw [ck_some (inI_b (by omega) (by omega))]
          refine .inl ⟨_, rfl, ⟨(i1.trans s12).trans (s3.mono (by omega) (Nat.le_refl _)), y, rfl, by omega, by omega, fun p q h1 h2 h3 => ?_⟩, by dsimp only; omega⟩
          dsimp only
          rw [s3.out (p := p) (by omega) (by omega), s3.out (p := q) (by omega) (by omega)]
          exact asc2 p q h1 h2 h3
        · rw [if_neg c4, ck_some (inI_b (by omega) (by omega))]
          exact .inl ⟨_, rfl, ⟨i1.trans s12, y, rfl, by omega, by omega, asc2⟩, by dsimp only; omega⟩
      · rw [if_neg c3, bind_some']
        obtain ⟨m2, em2⟩ : ∃ m2, swapL m y (y - 1) = m2 := ⟨_, rfl⟩
        have s2 : Sw a b (swapL m y (y - 1)) m2 := em2 ▸ Sw.refl _
        have asc2 : AscK κ a y m2 := fun p q h1 h2 h3 => by omega
        rw [em2]
        rw [ck_some (inI_b (by omega) (by omega))]
        have s12 := s1.trans s2
        have hl2 := s12.len
        by_cases c4 : 2 ≤ (b : Int) - (y : Int)
        · obtain ⟨m3, x3, e3, s3⟩ := sortI_pright hless (b := b) (x := y + 1) (l := m2) (by omega) (hVm.sw s12 (by omega)) (by omega) (by omega) (by omega)
          rw [show ((y + 1 : Nat) : Int) = (y : Int) + 1 by omega] at e3
          rw [if_pos c4, ck_some (inI_b (by omega) (by omega)), e3, bind_some']
          dsimp only
          rw [ck_some (inI_b (by omega) (by omega))]
          refine .inl ⟨_, rfl, ⟨(i1.trans s12).trans (s3.mono (by omega) (Nat.le_refl _)), y, rfl, by omega, by omega, fun p q h1 h2 h3 => ?_⟩, by dsimp only; omega⟩
          dsimp only
          rw [s3.out (p := p) (by omega) (by omega), s3.out (p := q) (by omega) (by omega)]
          exact asc2 p q h1 h2 h3
        · rw [if_neg c4, ck_some (inI_b (by omega) (by omega))]
          exact .inl ⟨_, rfl, ⟨i1.trans s12, y, rfl, by omega, by omega, asc2⟩, by dsimp only; omega⟩
    · rw [if_neg c]
      exact .inr (.inl ⟨_, rfl, .inl ⟨_, rfl, i1⟩⟩)) (n := 1000000000000000000) (s := (l, (a : Int) + 1, 0)) ⟨.refl _, a + 1, by dsimp only; omega, by omega, by omega, fun p q h1 h2 h3 => by omega⟩ (by dsimp only; omega)
  unfold slices_partialInsertionSortOrdered_int_F
  rw [ck_some (inI_b (by omega) (by omega)), e, bind_some']
  rcases hq with ⟨σ, rfl, h1⟩ | ⟨r, l', rfl, h1, h2⟩
  · exact ⟨_, _, rfl, h1, fun h => by cases h⟩
  · exact ⟨_, _, rfl, h1, h2⟩
/-! ### parting -/
theorem sortI_pe (hless : ∀ x y, V x → V y → ∃ r, cmp_Less_int_F x y = some r ∧ (r = true ↔ κ x < κ y)) {a b p : Nat} {l : List Int} (hl : l.length ≤ 100000000000000000) (hV : AllV V l) (hb : b ≤ l.length) (hap : a ≤ p) (hpb : p < b) :
    ∃ (i : Nat) (l' : List Int), slices_partitionEqualOrdered_int_F l (a : Int) (b : Int) (p : Int) = some ((i : Int), l') ∧ Sw a b l l' ∧ a < i ∧ i ≤ b ∧ ∀ q, a ≤ q → q < i → κ (l'.getD q 0) ≤ κ (l.getD p 0) := by
  have s0 : Sw a b l (swapL l a p) := (Sw.refl l).step ⟨by omega, by omega⟩ ⟨by omega, by omega⟩
  have e0 : (swapL l a p).getD a 0 = l.getD p 0 := by
    rw [swapL_getD (by omega) (by omega)]
    unfold swapJ
    by_cases z : a = p
    · rw [if_pos z, z]
    · rw [if_neg z, if_pos rfl]
  obtain ⟨q, e, σ, rfl, i, c0, c1, c2, c3, c5⟩ := loopC_or (f := slices_partitionEqualOrdered_int_B1 (a : Int)) (fun σ => Sw (a + 1) b (swapL l a p) σ.1 ∧ (a : Int) + 1 ≤ σ.2.1 ∧ σ.2.1 ≤ σ.2.2 + 1 ∧ σ.2.2 < b ∧ ∀ q : Nat, a ≤ q → (q : Int) < σ.2.1 → κ (σ.1.getD q 0) ≤ κ (l.getD p 0))
    (fun q => ∃ σ, q = .go σ ∧ ∃ i : Nat, σ.2.1 = (i : Int) ∧ Sw (a + 1) b (swapL l a p) σ.1 ∧ a < i ∧ i ≤ b ∧ ∀ q, a ≤ q → q < i → κ (σ.1.getD q 0) ≤ κ (l.getD p 0)) (fun σ => (σ.2.2 + 1 - σ.2.1).toNat) (fun σ ⟨i1, i2, i3, i4, i5⟩ => by
    obtain ⟨m, i, j⟩ := σ
    dsimp only at i1 i2 i3 i4 i5
    have hlen := i1.len
    rw [swapL_len] at hlen
    have hVm := (hV.sw s0 (by omega)).sw i1 (by rw [swapL_len]; omega)
    have ea : m.getD a 0 = l.getD p 0 := by rw [i1.out (p := a) (by omega) (by rw [swapL_len]; omega), e0]
    unfold slices_partitionEqualOrdered_int_B1
    dsimp only
    obtain ⟨i', e1, j1, j2, j3, j4⟩ := scan_up (f := slices_partitionEqualOrdered_int_B2 (a : Int) m j) (fun x => ¬ κ (l.getD p 0) < κ (m.getD x.toNat 0)) (i := i) (j := j) (by omega) (by omega) (fun x h1 h2 => by
      unfold slices_partitionEqualOrdered_int_B2
      obtain ⟨r, er, hr⟩ := hless (m.getD a 0) (m.getD x.toNat 0) (hVm _ (by omega)) (hVm _ (by omega))
      rw [if_pos h2, ck_some (by omega), ck_some (by omega), Int.toNat_natCast, er, bind_some']
      rw [ea] at hr
      by_cases z : κ (l.getD p 0) < κ (m.getD x.toNat 0)
      · rw [if_neg (sortI_n hr z)]; exact .inr ⟨fun w => w z, rfl⟩
      · rw [if_pos (sortI_p hr z), ck_some (inI_b (by omega) (by omega))]; exact .inl ⟨z, rfl⟩) (fun x h1 h2 => by
      unfold slices_partitionEqualOrdered_int_B2
      rw [if_neg (by omega)])
    rw [e1, bind_some']
    dsimp only
    obtain ⟨j', e2, k1, k2, k3, k4⟩ := scan_down (f := slices_partitionEqualOrdered_int_B3 (a : Int) m i') (fun x => κ (l.getD p 0) < κ (m.getD x.toNat 0)) (i := i') (j := j) (by omega) (by omega) (fun x h1 h2 => by
      unfold slices_partitionEqualOrdered_int_B3
      obtain ⟨r, er, hr⟩ := hless (m.getD a 0) (m.getD x.toNat 0) (hVm _ (by omega)) (hVm _ (by omega))
      rw [if_pos h1, ck_some (by omega), ck_some (by omega), Int.toNat_natCast, er, bind_some']
      rw [ea] at hr
      by_cases z : κ (l.getD p 0) < κ (m.getD x.toNat 0)
      · rw [if_pos (hr.2 z), ck_some (inI_b (by omega) (by omega))]; exact .inl ⟨z, rfl⟩
      · rw [if_neg fun w => z (hr.1 w)]; exact .inr ⟨z, rfl⟩) (fun x h1 => by
      unfold slices_partitionEqualOrdered_int_B3
      rw [if_neg (by omega)])
    rw [e2, bind_some']
    dsimp only
    have left : ∀ q : Nat, a ≤ q → (q : Int) < i' → κ (m.getD q 0) ≤ κ (l.getD p 0) := fun q h1 h2 => by
      by_cases z : (q : Int) < i
      · exact i5 q h1 z
      · have := j3 (q : Int) (by omega) h2
        rw [Int.toNat_natCast] at this
        omega
    by_cases c : j' < i'
    · rw [if_pos c]
      refine .inr (.inl ⟨_, rfl, _, rfl, i'.toNat, by dsimp only; omega, i1, by omega, by omega, fun q h1 h2 => left q h1 (by omega)⟩)
    · have hne : i' ≠ j' := fun w => by
        have h1 := j4 (by omega)
        have h2 := k4 (by omega)
        rw [w] at h1
        exact h1 h2
      have h2 := k4 (by omega)
      rw [if_neg c, ck_some (by omega), ck_some (by omega), ck_some (inI_b (by omega) (by omega)), ck_some (inI_b (by omega) (by omega))]
      refine .inl ⟨_, rfl, ⟨i1.step ⟨by omega, by omega⟩ ⟨by omega, by omega⟩, by dsimp only; omega, by dsimp only; omega, by dsimp only; omega, fun q h3 h4 => ?_⟩, by dsimp only; omega⟩
      dsimp only at h4
      show κ ((swapL m i'.toNat j'.toNat).getD q 0) ≤ _
      rw [swapL_getD (by omega) (by omega)]
      unfold swapJ
      rw [if_neg (by omega)]
      by_cases z : q = i'.toNat
      · rw [if_pos z]; omega
      · rw [if_neg z]; exact left q h3 (by omega)) (n := 1000000000000000000) (s := (swapL l a p, (a : Int) + 1, (b : Int) - 1)) ⟨.refl _, by dsimp only; omega, by dsimp only; omega, by dsimp only; omega, fun q h1 h2 => by
      have h2 : (q : Int) < (a : Int) + 1 := h2
      have : q = a := by omega
      rw [this, e0]; exact Int.le_refl _⟩ (by dsimp only; omega)
  have e' : loopC (slices_partitionEqualOrdered_int_B1 (a : Int)) 1000000000000000000 ((l.set a (l.getD p 0)).set p (l.getD a 0), (a : Int) + 1, (b : Int) - 1) = some (.go σ) := e
  unfold slices_partitionEqualOrdered_int_F
  rw [ck_some (by omega), ck_some (by omega), ck_some (inI_b (by omega) (by omega)), ck_some (inI_b (by omega) (by omega)), Int.toNat_natCast, Int.toNat_natCast, e', bind_some']
  obtain ⟨m, x, y⟩ := σ
  dsimp only at c0 c1 c5
  subst c0
  exact ⟨i, m, rfl, s0.trans (c1.mono (by omega) (Nat.le_refl _)), c2, c3, c5⟩
theorem sortI_ptloop (hless : ∀ x y, V x → V y → ∃ r, cmp_Less_int_F x y = some r ∧ (r = true ↔ κ x < κ y)) {a b : Nat} {l0 l : List Int} {i0 j0 : Int} (hl : l0.length ≤ 100000000000000000) (hV : AllV V l0) (hb : b ≤ l0.length) (h1 : Sw (a + 1) b l0 l) (h2 : (a : Int) + 1 ≤ i0) (h3 : i0 ≤ j0 + 1) (h4 : j0 < b)
    (h5 : ∀ q : Nat, a < q → (q : Int) < i0 → κ (l.getD q 0) < κ (l0.getD a 0)) (h6 : ∀ q : Nat, j0 < (q : Int) → q < b → ¬ κ (l.getD q 0) < κ (l0.getD a 0)) :
    ∃ (m : List Int) (i : Int) (j : Nat), loopC (slices_partitionOrdered_int_B3 (a : Int)) 1000000000000000000 (l, i0, j0) = some (.go (m, i, (j : Int))) ∧ Sw (a + 1) b l0 m ∧ a ≤ j ∧ j < b ∧ (∀ q : Nat, a < q → q ≤ j → κ (m.getD q 0) < κ (l0.getD a 0)) ∧ ∀ q : Nat, j < q → q < b → ¬ κ (m.getD q 0) < κ (l0.getD a 0) := by
  obtain ⟨q, e, σ, rfl, j, c0, c1, c2, c3, c4, c5⟩ := loopC_or (f := slices_partitionOrdered_int_B3 (a : Int)) (fun σ => Sw (a + 1) b l0 σ.1 ∧ (a : Int) + 1 ≤ σ.2.1 ∧ σ.2.1 ≤ σ.2.2 + 1 ∧ σ.2.2 < b ∧ (∀ q : Nat, a < q → (q : Int) < σ.2.1 → κ (σ.1.getD q 0) < κ (l0.getD a 0)) ∧ ∀ q : Nat, σ.2.2 < (q : Int) → q < b → ¬ κ (σ.1.getD q 0) < κ (l0.getD a 0))
    (fun q => ∃ σ, q = .go σ ∧ ∃ j : Nat, σ.2.2 = (j : Int) ∧ Sw (a + 1) b l0 σ.1 ∧ a ≤ j ∧ j < b ∧ (∀ q : Nat, a < q → q ≤ j → κ (σ.1.getD q 0) < κ (l0.getD a 0)) ∧ ∀ q : Nat, j < q → q < b → ¬ κ (σ.1.getD q 0) < κ (l0.getD a 0)) (fun σ => (σ.2.2 + 1 - σ.2.1).toNat) (fun σ ⟨i1, i2, i3, i4, i5, i6⟩ => by
    obtain ⟨m, i, j⟩ := σ
    dsimp only at i1 i2 i3 i4 i5 i6
    have hlen := i1.len
    have hVm := hV.sw i1 (by omega)
    have ea : m.getD a 0 = l0.getD a 0 := i1.out (p := a) (by omega) (by omega)
    unfold slices_partitionOrdered_int_B3
    dsimp only
    obtain ⟨i', e1, j1, j2, j3, j4⟩ := scan_up (f := slices_partitionOrdered_int_B4 (a : Int) m j) (fun x => κ (m.getD x.toNat 0) < κ (l0.getD a 0)) (i := i) (j := j) (by omega) (by omega) (fun x h1 h2 => by
      unfold slices_partitionOrdered_int_B4
      obtain ⟨r, er, hr⟩ := hless (m.getD x.toNat 0) (m.getD a 0) (hVm _ (by omega)) (hVm _ (by omega))
      rw [if_pos h2, ck_some (by omega), ck_some (by omega), Int.toNat_natCast, er, bind_some']
      rw [ea] at hr
      by_cases z : κ (m.getD x.toNat 0) < κ (l0.getD a 0)
      · rw [if_pos (hr.2 z), ck_some (inI_b (by omega) (by omega))]; exact .inl ⟨z, rfl⟩
      · rw [if_neg fun w => z (hr.1 w)]; exact .inr ⟨z, rfl⟩) (fun x h1 h2 => by
      unfold slices_partitionOrdered_int_B4
      rw [if_neg (by omega)])
    rw [e1, bind_some']
    dsimp only
    obtain ⟨j', e2, k1, k2, k3, k4⟩ := scan_down (f := slices_partitionOrdered_int_B5 (a : Int) m i') (fun x => ¬ κ (m.getD x.toNat 0) < κ (l0.getD a 0)) (i := i') (j := j) (by omega) (by omega) (fun x h1 h2 => by
      unfold slices_partitionOrdered_int_B5
      obtain ⟨r, er, hr⟩ := hless (m.getD x.toNat 0) (m.getD a 0) (hVm _ (by omega)) (hVm _ (by omega))
      rw [if_pos h1, ck_some (by omega), ck_some (by omega), Int.toNat_natCast, er, bind_some']
      rw [ea] at hr
      by_cases z : κ (m.getD x.toNat 0) < κ (l0.getD a 0)
      · rw [if_neg (sortI_n hr z)]; exact .inr ⟨fun w => w z, rfl⟩
      · rw [if_pos (sortI_p hr z), ck_some (inI_b (by omega) (by omega))]; exact .inl ⟨z, rfl⟩) (fun x h1 => by
      unfold slices_partitionOrdered_int_B5
      rw [if_neg (by omega)])
    rw [e2, bind_some']
    dsimp only
    have left : ∀ q : Nat, a < q → (q : Int) < i' → κ (m.getD q 0) < κ (l0.getD a 0) := fun q h1 h2 => by
      by_cases z : (q : Int) < i
      · exact i5 q h1 z
      · have := j3 (q : Int) (by omega) h2
        rwa [Int.toNat_natCast] at this
    have right : ∀ q : Nat, j' < (q : Int) → q < b → ¬ κ (m.getD q 0) < κ (l0.getD a 0) := fun q h1 h2 => by
      by_cases z : j < (q : Int)
      · exact i6 q z h2
      · have := k3 (q : Int) h1 (by omega)
        rwa [Int.toNat_natCast] at this
    by_cases c : j' < i'
    · rw [if_pos c]
      refine .inr (.inl ⟨_, rfl, _, rfl, j'.toNat, by dsimp only; omega, i1, by omega, by omega, fun q h1 h2 => left q h1 (by omega), fun q h1 h2 => right q (by omega) h2⟩)
    · have g1 := j4 (by omega)
      have g2 := k4 (by omega)
      have hne : i' ≠ j' := fun w => by
        rw [w] at g1
        exact g2 g1
      rw [if_neg c, ck_some (by omega), ck_some (by omega), ck_some (inI_b (by omega) (by omega)), ck_some (inI_b (by omega) (by omega))]
      refine .inl ⟨_, rfl, ⟨i1.step ⟨by omega, by omega⟩ ⟨by omega, by omega⟩, by dsimp only; omega, by dsimp only; omega, by dsimp only; omega, fun q h3 h4 => ?_, fun q h3 h4 => ?_⟩, by dsimp only; omega⟩
      · dsimp only at h4
        show κ ((swapL m i'.toNat j'.toNat).getD q 0) < _
        rw [swapL_getD (by omega) (by omega)]
        unfold swapJ
        rw [if_neg (by omega)]
        by_cases z : q = i'.toNat
        · rw [if_pos z]; exact Classical.byContradiction g2
        · rw [if_neg z]; exact left q h3 (by omega)
      · dsimp only at h3
        show ¬ κ ((swapL m i'.toNat j'.toNat).getD q 0) < _
        rw [swapL_getD (by omega) (by omega)]
        unfold swapJ
        by_cases z : q = j'.toNat
        · rw [if_pos z]; exact g1
        · rw [if_neg z, if_neg (by omega)]; exact right q (by omega) h4) (n := 1000000000000000000) (s := (l, i0, j0)) ⟨h1, h2, h3, h4, h5, h6⟩ (by dsimp only; omega)
  obtain ⟨m, x, y⟩ := σ
  dsimp only at c0 c1 c4 c5
  subst c0
  exact ⟨m, x, j, e, c1, c2, c3, c4, c5⟩
/-- the place is taken -/
theorem sortI_place {a b j : Nat} {l0 m : List Int} (hb : b ≤ l0.length) (h1 : Sw (a + 1) b l0 m) (ha : a ≤ j) (hj : j < b) (h2 : ∀ q : Nat, a < q → q ≤ j → κ (m.getD q 0) < κ (l0.getD a 0)) (h3 : ∀ q : Nat, j < q → q < b → ¬ κ (m.getD q 0) < κ (l0.getD a 0)) :
    Sw a b l0 (swapL m j a) ∧ PartK κ a b j (swapL m j a) := by
  have hlen := h1.len
  have ea : m.getD a 0 = l0.getD a 0 := h1.out (p := a) (by omega) (by omega)
  have hs := swapL_getD (l := m) (i := j) (j := a) (by omega) (by omega)
  have ej : (swapL m j a).getD j 0 = l0.getD a 0 := by
    rw [hs]
    unfold swapJ
    by_cases z : j = a
    · rw [if_pos z, z, ea]
    · rw [if_neg z, if_pos rfl, ea]
  refine ⟨(h1.mono (by omega) (Nat.le_refl _)).step ⟨by omega, by omega⟩ ⟨by omega, by omega⟩, ha, hj, fun p q1 q2 => ?_, fun p q1 q2 => ?_⟩
  · rw [ej, hs]
    unfold swapJ
    by_cases z : p = a
    · rw [if_pos z]
      have := h2 j (by omega) (Nat.le_refl _)
      omega
    · rw [if_neg z, if_neg (by omega)]
      have := h2 p (by omega) (by omega)
      omega
  · rw [ej, hs]
    unfold swapJ
    rw [if_neg (by omega), if_neg (by omega)]
    have := h3 p q1 q2
    omega
theorem sortI_pt (hless : ∀ x y, V x → V y → ∃ r, cmp_Less_int_F x y = some r ∧ (r = true ↔ κ x < κ y)) {a b p : Nat} {l : List Int} (hl : l.length ≤ 100000000000000000) (hV : AllV V l) (hb : b ≤ l.length) (hap : a ≤ p) (hpb : p < b) :
    ∃ (mid : Nat) (al : Bool) (l' : List Int), slices_partitionOrdered_int_F l (a : Int) (b : Int) (p : Int) = some ((mid : Int), al, l') ∧ Sw a b l l' ∧ PartK κ a b mid l' := by
  obtain ⟨m0, em⟩ : ∃ m0, swapL l a p = m0 := ⟨_, rfl⟩
  have em' : (l.set a (l.getD p 0)).set p (l.getD a 0) = m0 := em
  have s0 : Sw a b l m0 := em ▸ (Sw.refl l).step ⟨by omega, by omega⟩ ⟨by omega, by omega⟩
  have hlen := s0.len
  have hVm := hV.sw s0 hb
  obtain ⟨i, e1, j1, j2, j3, j4⟩ := scan_up (f := slices_partitionOrdered_int_B1 l (a : Int) (b : Int) (p : Int)) (fun x => κ (m0.getD x.toNat 0) < κ (m0.getD a 0)) (i := (a : Int) + 1) (j := (b : Int) - 1) (by omega) (by omega) (fun x h1 h2 => by
    unfold slices_partitionOrdered_int_B1
    obtain ⟨r, er, hr⟩ := hless (m0.getD x.toNat 0) (m0.getD a 0) (hVm _ (by omega)) (hVm _ (by omega))
    rw [if_pos h2, ck_some (by omega), Int.toNat_natCast, Int.toNat_natCast, em', er, bind_some']
    by_cases z : κ (m0.getD x.toNat 0) < κ (m0.getD a 0)
    · rw [if_pos (hr.2 z), ck_some (inI_b (by omega) (by omega))]; exact .inl ⟨z, rfl⟩
    · rw [if_neg fun w => z (hr.1 w)]; exact .inr ⟨z, rfl⟩) (fun x h1 h2 => by
    unfold slices_partitionOrdered_int_B1
    rw [if_neg (by omega)])
  obtain ⟨j, e2, k1, k2, k3, k4⟩ := scan_down (f := slices_partitionOrdered_int_B2 l (a : Int) (p : Int) i) (fun x => ¬ κ (m0.getD x.toNat 0) < κ (m0.getD a 0)) (i := i) (j := (b : Int) - 1) (by omega) (by omega) (fun x h1 h2 => by
    unfold slices_partitionOrdered_int_B2
    obtain ⟨r, er, hr⟩ := hless (m0.getD x.toNat 0) (m0.getD a 0) (hVm _ (by omega)) (hVm _ (by omega))
    rw [if_pos h1, ck_some (by omega), Int.toNat_natCast, Int.toNat_natCast, em', er, bind_some']
    by_cases z : κ (m0.getD x.toNat 0) < κ (m0.getD a 0)
    · rw [if_neg (sortI_n hr z)]; exact .inr ⟨fun w => w z, rfl⟩
    · rw [if_pos (sortI_p hr z), ck_some (inI_b (by omega) (by omega))]; exact .inl ⟨z, rfl⟩) (fun x h1 => by
    unfold slices_partitionOrdered_int_B2
    rw [if_neg (by omega)])
  have left : ∀ q : Nat, a < q → (q : Int) < i → κ (m0.getD q 0) < κ (m0.getD a 0) := fun q h1 h2 => by
    have := j3 (q : Int) (by omega) h2
    rwa [Int.toNat_natCast] at this
  have right : ∀ q : Nat, j < (q : Int) → q < b → ¬ κ (m0.getD q 0) < κ (m0.getD a 0) := fun q h1 h2 => by
    have := k3 (q : Int) h1 (by omega)
    rwa [Int.toNat_natCast] at this
  unfold slices_partitionOrdered_int_F
  rw [ck_some (by omega), ck_some (by omega), ck_some (inI_b (by omega) (by omega)), ck_some (inI_b (by omega) (by omega)), e1, bind_some']
  dsimp only
  rw [e2, bind_some']
  dsimp only
  rw [Int.toNat_natCast, Int.toNat_natCast, em']
  by_cases c : j < i
  · obtain ⟨j, rfl⟩ := Int.eq_ofNat_of_zero_le (show 0 ≤ j by omega)
    obtain ⟨g1, g2⟩ := sortI_place (κ := κ) (a := a) (b := b) (j := j) (l0 := m0) (m := m0) (by omega) (.refl _) (by omega) (by omega) (fun q h1 h2 => left q h1 (by omega)) (fun q h1 h2 => right q (by omega) h2)
    rw [if_pos c, ck_some (by omega), Int.toNat_natCast]
    exact ⟨j, true, swapL m0 j a, rfl, s0.trans g1, g2⟩
  · have g1 := j4 (by omega)
    have g2 := k4 (by omega)
    have hne : i ≠ j := fun w => by
      rw [w] at g1
      exact g2 g1
    have hs := swapL_getD (l := m0) (i := i.toNat) (j := j.toNat) (by omega) (by omega)
    obtain ⟨m, i', j', e3, t1, t2, t3, t4, t5⟩ := sortI_ptloop hless (a := a) (b := b) (l0 := m0) (l := swapL m0 i.toNat j.toNat) (i0 := i + 1) (j0 := j - 1) (by omega) hVm (by omega) ((Sw.refl _).step ⟨by omega, by omega⟩ ⟨by omega, by omega⟩) (by omega) (by omega) (by omega) (fun q h1 h2 => by
      rw [hs]
      unfold swapJ
      rw [if_neg (by omega)]
      by_cases z : q = i.toNat
      · rw [if_pos z]; exact Classical.byContradiction g2
      · rw [if_neg z]; exact left q h1 (by omega)) (fun q h1 h2 => by
      rw [hs]
      unfold swapJ
      by_cases z : q = j.toNat
      · rw [if_pos z]; exact g1
      · rw [if_neg z, if_neg (by omega)]; exact right q (by omega) h2)
    have e3' : loopC (slices_partitionOrdered_int_B3 (a : Int)) 1000000000000000000 ((m0.set i.toNat (m0.getD j.toNat 0)).set j.toNat (m0.getD i.toNat 0), i + 1, j - 1) = some (.go (m, i', (j' : Int))) := e3
    have hl2 := t1.len
    obtain ⟨w1, w2⟩ := sortI_place (κ := κ) (by omega) t1 t2 t3 t4 t5
    rw [if_neg c, ck_some (by omega), ck_some (by omega), ck_some (inI_b (by omega) (by omega)), ck_some (inI_b (by omega) (by omega)), e3', bind_some']
    dsimp only
    rw [ck_some (by omega), ck_some (by omega), Int.toNat_natCast]
    exact ⟨j', false, swapL m j' a, rfl, s0.trans w1, w2⟩
/-! ### the great loop -/
section
variable {rec : List Int → Int → Int → Int → Option (List Int)} {N : Nat}
theorem sortI_tail (hless : ∀ x y, V x → V y → ∃ r, cmp_Less_int_F x y = some r ∧ (r = true ↔ κ x < κ y)) (hrec : ∀ {a b : Nat} {l : List Int} {lim : Int}, l.length ≤ 100000000000000000 → AllV V l → b ≤ l.length → a ≤ b → b - a ≤ N → 0 ≤ lim → lim ≤ 1000 → Fen κ a b l → ∃ l', rec l (a : Int) (b : Int) lim = some l' ∧ Sw a b l l' ∧ AscK κ a b l')
    {a b a' b' p : Nat} {l m : List Int} {lim : Int} {b5 : Bool} (hl : l.length ≤ 100000000000000000) (hV : AllV V l) (hb : b ≤ l.length) (h1 : a ≤ a') (h2 : a' ≤ p) (h3 : p < b') (h4 : b' ≤ b) (hn : b' - a' ≤ 2 * N) (hs : Sw a b l m) (hd : Done κ a b a' b' m) (hf : Fen κ a' b' m) (l0 : 0 ≤ lim) (l1 : lim ≤ 1000) :
    PGood κ a b l (b' - a') ((slices_partitionOrdered_int_F m (a' : Int) (b' : Int) (p : Int)).bind fun (r74, r75, l76) =>
     ck (l76.length = m.length) <|
     ck (InI (r74 - (a' : Int))) <|
     ck (InI ((b' : Int) - r74)) <|
     ck (InI (Int.tdiv ((b' : Int) - (a' : Int)) 8)) <|
     if (r74 - (a' : Int)) < ((b' : Int) - r74) then
      (rec l76 (a' : Int) r74 lim).bind fun l83 =>
      ck (l83.length = m.length) <|
      ck (InI (r74 + 1)) <|
      some (.go (l83, (r74 + 1), (b' : Int), lim, (decide ((Int.tdiv ((b' : Int) - (a' : Int)) 8) ≤ (r74 - (a' : Int)))), r75))
     else
      ck (InI (r74 + 1)) <|
      (rec l76 (r74 + 1) (b' : Int) lim).bind fun l88 =>
      ck (l88.length = m.length) <|
      some (.go (l88, (a' : Int), r74, lim, (decide ((Int.tdiv ((b' : Int) - (a' : Int)) 8) ≤ ((b' : Int) - r74))), r75))) := by
  have hlm := hs.len
  have hVm := hV.sw hs hb
  obtain ⟨mid, al, m2, e, s2, pt⟩ := sortI_pt hless (a := a') (b := b') (p := p) (l := m) (by omega) hVm (by omega) h2 h3
  have hl2 := s2.len
  have hd2 := hd.sw s2 h1 h4 (by omega)
  have hf2 := hf.sw s2 (by omega)
  have hV2 := hVm.sw s2 (by omega)
  have am := pt.am
  have mb := pt.mb
  have en : (b' : Int) - (a' : Int) = ((b' - a' : Nat) : Int) := by omega
  rw [e, bind_some']
  dsimp only
  rw [ck_some hl2, ck_some (inI_b (by omega) (by omega)), ck_some (inI_b (by omega) (by omega)), en, tdiv8, ck_some (inI_b (by omega) (by omega))]
  by_cases c : (mid : Int) - (a' : Int) < (b' : Int) - (mid : Int)
  · obtain ⟨m3, e3, s3, a3⟩ := hrec (a := a') (b := mid) (l := m2) (lim := lim) (by omega) hV2 (by omega) am (by omega) l0 l1 (hf2.mono (by omega))
    have hl3 := s3.len
    have hd3 := hd2.sw (s3.mono (Nat.le_refl _) (by omega)) h1 h4 (by omega)
    rw [if_pos c, e3, bind_some', ck_some (by omega), ck_some (inI_b (by omega) (by omega))]
    exact .inl ⟨_, rfl, ⟨mid + 1, b', by dsimp only; omega, rfl, by omega, by omega, h4, (hs.trans (s2.mono h1 h4)).trans (s3.mono h1 (by omega)), hd3.left (pt.swL s3 (by omega)) a3, l0, l1⟩, by dsimp only; omega⟩
  · have hfr : Fen κ (mid + 1) b' m2 := .inr fun q q1 q2 => by
      rw [show mid + 1 - 1 = mid by omega]; exact pt.hi q (by omega) q2
    obtain ⟨m3, e3, s3, a3⟩ := hrec (a := mid + 1) (b := b') (l := m2) (lim := lim) (by omega) hV2 (by omega) (by omega) (by omega) l0 l1 hfr
    have hl3 := s3.len
    have hd3 := hd2.sw (s3.mono (by omega) (Nat.le_refl _)) h1 h4 (by omega)
    rw [show ((mid + 1 : Nat) : Int) = (mid : Int) + 1 by omega] at e3
    rw [if_neg c, ck_some (inI_b (by omega) (by omega)), e3, bind_some', ck_some (by omega)]
    exact .inl ⟨_, rfl, ⟨a', mid, rfl, rfl, h1, am, by omega, (hs.trans (s2.mono h1 h4)).trans (s3.mono (by omega) h4), hd3.right (pt.swR s3 (by omega)) a3, l0, l1⟩, by dsimp only; omega⟩
theorem sortI_mid (hless : ∀ x y, V x → V y → ∃ r, cmp_Less_int_F x y = some r ∧ (r = true ↔ κ x < κ y)) (hrec : ∀ {a b : Nat} {l : List Int} {lim : Int}, l.length ≤ 100000000000000000 → AllV V l → b ≤ l.length → a ≤ b → b - a ≤ N → 0 ≤ lim → lim ≤ 1000 → Fen κ a b l → ∃ l', rec l (a : Int) (b : Int) lim = some l' ∧ Sw a b l l' ∧ AscK κ a b l')
    {a b a' b' p : Nat} {l m : List Int} {lim : Int} {b5 b6 : Bool} (hl : l.length ≤ 100000000000000000) (hV : AllV V l) (hb : b ≤ l.length) (h1 : a ≤ a') (h2 : a' ≤ p) (h3 : p < b') (h4 : b' ≤ b) (hn : b' - a' ≤ 2 * N) (hs : Sw a b l m) (hd : Done κ a b a' b' m) (hf : Fen κ a' b' m) (l0 : 0 ≤ lim) (l1 : lim ≤ 1000) :
    PGood κ a b l (b' - a') (((
     if 0 < (a' : Int) then
      ck (InI ((a' : Int) - 1)) <|
      ck (0 ≤ ((a' : Int) - 1) ∧ ((a' : Int) - 1) < ((m.length : Nat) : Int)) <|
      ck (0 ≤ (p : Int) ∧ (p : Int) < ((m.length : Nat) : Int)) <|
      (cmp_Less_int_F (m.getD (((a' : Int) - 1).toNat) (0 : Int)) (m.getD (p : Int).toNat (0 : Int))).bind fun r =>
      if (!r) = true then
       (slices_partitionEqualOrdered_int_F m (a' : Int) (b' : Int) (p : Int)).bind fun (r70, l71) =>
       ck (l71.length = m.length) <|
       some (.ret (.go (l71, r70, (b' : Int), lim, b5, b6)))
      else
       some (.go ())
     else
      some (.go ())) : Option (Ex (Unit) (Ct ((List Int) × Int × Int × Int × Bool × Bool) ((List Int))))).bind fun q => match q with
    | .go () =>
     (slices_partitionOrdered_int_F m (a' : Int) (b' : Int) (p : Int)).bind fun (r74, r75, l76) =>
     ck (l76.length = m.length) <|
     ck (InI (r74 - (a' : Int))) <|
     ck (InI ((b' : Int) - r74)) <|
     ck (InI (Int.tdiv ((b' : Int) - (a' : Int)) 8)) <|
     if (r74 - (a' : Int)) < ((b' : Int) - r74) then
      (rec l76 (a' : Int) r74 lim).bind fun l83 =>
      ck (l83.length = m.length) <|
      ck (InI (r74 + 1)) <|
      some (.go (l83, (r74 + 1), (b' : Int), lim, (decide ((Int.tdiv ((b' : Int) - (a' : Int)) 8) ≤ (r74 - (a' : Int)))), r75))
     else
      ck (InI (r74 + 1)) <|
      (rec l76 (r74 + 1) (b' : Int) lim).bind fun l88 =>
      ck (l88.length = m.length) <|
      some (.go (l88, (a' : Int), r74, lim, (decide ((Int.tdiv ((b' : Int) - (a' : Int)) 8) ≤ ((b' : Int) - r74))), r75))
    | .ret x => some x) := by
  have hlm := hs.len
  have hVm := hV.sw hs hb
  have tail := sortI_tail (N := N) hless hrec (b5 := b5) hl hV hb h1 h2 h3 h4 hn hs hd hf l0 l1
  by_cases c : 0 < (a' : Int)
  · have ey : ((a' : Int) - 1).toNat = a' - 1 := by omega
    obtain ⟨r, er, hr⟩ := hless (m.getD (a' - 1) 0) (m.getD p 0) (hVm _ (by omega)) (hVm _ (by omega))
    rw [if_pos c, ck_some (inI_b (by omega) (by omega)), ck_some (by omega), ck_some (by omega), ey, Int.toNat_natCast, er, bind_some']
    by_cases z : κ (m.getD (a' - 1) 0) < κ (m.getD p 0)
    · rw [if_neg (sortI_n hr z), bind_some']
      exact tail
    · obtain ⟨i, m2, e2, s2, i1, i2, i3⟩ := sortI_pe hless (a := a') (b := b') (p := p) (l := m) (by omega) hVm (by omega) h2 h3
      have hl2 := s2.len
      have hd2 := hd.sw s2 h1 h4 (by omega)
      rw [if_pos (sortI_p hr z), e2, bind_some']
      dsimp only
      rw [ck_some hl2, bind_some']
      refine .inl ⟨_, rfl, ⟨i, b', rfl, rfl, by omega, by omega, h4, hs.trans (s2.mono h1 h4), hd2.equal fun x y q1 q2 q3 q4 => ?_, l0, l1⟩, by dsimp only; omega⟩
      obtain ⟨y', y1, y2, y3⟩ := s2.from (by omega) y q3 q4
      have g1 := i3 x q1 q2
      rw [y3]
      rcases hf with w | w
      · omega
      · have := w y' y1 y2; omega
  · rw [if_neg c, bind_some']
    exact tail
end
theorem sortI_pdq (hless : ∀ x y, V x → V y → ∃ r, cmp_Less_int_F x y = some r ∧ (r = true ↔ κ x < κ y)) : ∀ (f : Nat) {a b : Nat} {l : List Int} {lim : Int}, l.length ≤ 100000000000000000 → AllV V l → b ≤ l.length → a ≤ b → b - a ≤ 12 * 2 ^ f → 0 ≤ lim → lim ≤ 1000 → Fen κ a b l →
    ∃ l', slices_pdqsortOrdered_int_F (f + 1) l (a : Int) (b : Int) lim = some l' ∧ Sw a b l l' ∧ AscK κ a b l' := by
  intro f
  induction f with
  | zero =>
    intro a b l lim hl hV hb hab hn h0 h1 hF
    obtain ⟨l', e, hs, ha⟩ := sortI_ins hless (a := a) (b := b) (l := l) hl hV hb hab
    have hlen := hs.len
    obtain ⟨q, e2, rfl⟩ := loopC_or (f := slices_pdqsortOrdered_int_B1 (slices_pdqsortOrdered_int_F 0)) (fun σ => σ = (l, (a : Int), (b : Int), lim, true, true)) (fun q => q = .ret l') (fun _ => 0) (fun σ hσ => by
      subst hσ
      unfold slices_pdqsortOrdered_int_B1
      dsimp only
      rw [ck_some (inI_b (by omega) (by omega)), if_pos (by omega), e, bind_some', ck_some hlen]
      exact .inr (.inr ⟨_, rfl, rfl⟩)) (n := 1000000000000000000) (s := (l, (a : Int), (b : Int), lim, true, true)) rfl (by omega)
    refine ⟨l', ?_, hs, ha⟩
    show slices_pdqsortOrdered_int_S (slices_pdqsortOrdered_int_F 0) l (a : Int) (b : Int) lim = some l'
    unfold slices_pdqsortOrdered_int_S
    rw [e2, bind_some']
  | succ f ih =>
    intro a b l lim hl hV hb hab hn h0 h1 hF
    have hp : 2 ^ (f + 1) = 2 * 2 ^ f := by rw [Nat.pow_succ]; omega
    obtain ⟨q, e2, l', rfl, hq1, hq2⟩ := loopC_or (f := slices_pdqsortOrdered_int_B1 (slices_pdqsortOrdered_int_F (f + 1))) (PInv κ a b l) (fun q => ∃ l', q = .ret l' ∧ Sw a b l l' ∧ AscK κ a b l') (fun σ => (σ.2.2.1 - σ.2.1).toNat) (fun σ ⟨a', b', i1, i2, i3, i4, i5, i6, i7, i8, i9⟩ => by
      obtain ⟨m, x, y, lm, b5, b6⟩ := σ
      dsimp only at i1 i2 i6 i7 i8 i9
      subst i1 i2
      have hlm := i6.len
      have hVm := hV.sw i6 hb
      have hfm := i7.fen (hF.sw i6 hb) i3 i5
      have good : ∀ o, PGood κ a b l (b' - a') o → (∃ s', o = some (.go s') ∧ PInv κ a b l s' ∧ (s'.2.2.1 - s'.2.1).toNat < ((b' : Int) - (a' : Int)).toNat) ∨ (∃ s', o = some (.brk s') ∧ ∃ l', (Ex.go s' : Ex (List Int × Int × Int × Int × Bool × Bool) (List Int)) = .ret l' ∧ Sw a b l l' ∧ AscK κ a b l') ∨ ∃ r, o = some (.ret r) ∧ ∃ l', (Ex.ret r : Ex (List Int × Int × Int × Int × Bool × Bool) (List Int)) = .ret l' ∧ Sw a b l l' ∧ AscK κ a b l' := fun o h => by
        rcases h with ⟨s', w1, w2, w3⟩ | ⟨l', w1, w2, w3⟩
        · exact .inl ⟨s', w1, w2, by omega⟩
        · exact .inr (.inr ⟨l', w1, l', rfl, w2, w3⟩)
      unfold slices_pdqsortOrdered_int_B1
      dsimp only
      refine good _ ?_
      rw [ck_some (inI_b (by omega) (by omega))]
      by_cases c : (b' : Int) - (a' : Int) ≤ 12
      · obtain ⟨l', e, hs, ha⟩ := sortI_ins hless (a := a') (b := b') (l := m) (by omega) hVm (by omega) i4
        rw [if_pos c, e, bind_some', ck_some hs.len]
        exact .inr ⟨l', rfl, i6.trans (hs.mono i3 i5), (i7.sw hs i3 i5 (by omega)).asc ha⟩
      rw [if_neg c]
      by_cases cl : lm = 0
      · obtain ⟨l', e, hs, ha⟩ := sortI_heap hless (a := a') (b := b') (l := m) (by omega) hVm (by omega) (by omega)
        rw [if_pos cl, e, bind_some', ck_some hs.len]
        exact .inr ⟨l', rfl, i6.trans (hs.mono i3 i5), (i7.sw hs i3 i5 (by omega)).asc ha⟩
      rw [if_neg cl]
      obtain ⟨n, rfl⟩ : ∃ n, b' = a' + n := ⟨b' - a', by omega⟩
      -- patterns are broken
      obtain ⟨m1, lm1, e1, s1, l0, l1⟩ : ∃ m1 lm1, ((if (!b5) = true then (slices_breakPatternsOrdered_int_F m (a' : Int) ((a' + n : Nat) : Int)).bind fun l31 => ck (l31.length = m.length) <| ck (InI (lm - 1)) <| some (l31, (lm - 1)) else some (m, lm)) : Option (List Int × Int)) = some (m1, lm1) ∧ Sw a' (a' + n) m m1 ∧ 0 ≤ lm1 ∧ lm1 ≤ 1000 := by
        by_cases d : (!b5) = true
        · obtain ⟨m1, e1, s1⟩ := sortI_break (a := a') (n := n) (l := m) (by omega) (by omega) (by omega)
          rw [if_pos d, e1, bind_some', ck_some s1.len, ck_some (inI_b (by omega) (by omega))]
          exact ⟨_, _, rfl, s1, by omega, by omega⟩
        · rw [if_neg d]; exact ⟨_, _, rfl, .refl _, i8, i9⟩
      have hl1 := s1.len
      rw [e1, bind_some']
      dsimp only
      obtain ⟨p, h, e2, p1, p2⟩ := sortI_pivot hless (a := a') (n := n) (l := m1) (by omega) (hVm.sw s1 (by omega)) (by omega) (by omega)
      rw [e2, bind_some']
      dsimp only
      obtain ⟨m2, pv, h', e3, s2, p3, p4⟩ : ∃ (m2 : List Int) (pv : Nat) (h' : Int), ((if h = 2 then (slices_reverseRangeOrdered_int_F m1 (a' : Int) ((a' + n : Nat) : Int)).bind fun l44 => ck (l44.length = m1.length) <| ck (InI (((a' + n : Nat) : Int) - 1)) <| ck (InI ((p : Int) - (a' : Int))) <| ck (InI ((((a' + n : Nat) : Int) - 1) - ((p : Int) - (a' : Int)))) <|
          some (l44, ((((a' + n : Nat) : Int) - 1) - ((p : Int) - (a' : Int))), 1) else some (m1, (p : Int), h)) : Option (List Int × Int × Int)) = some (m2, (pv : Int), h') ∧ Sw a' (a' + n) m m2 ∧ a' ≤ pv ∧ pv < a' + n := by
        by_cases d : h = 2
        · obtain ⟨m2, e3, s2⟩ := sortI_rev (a := a') (b := a' + n) (l := m1) (by omega) (by omega) (by omega)
          rw [if_pos d, e3, bind_some', ck_some s2.len, ck_some (inI_b (by omega) (by omega)), ck_some (inI_b (by omega) (by omega)), ck_some (inI_b (by omega) (by omega))]
          refine ⟨m2, a' + n - 1 - (p - a'), 1, ?_, s1.trans s2, by omega, by omega⟩
          rw [show (((a' + n : Nat) : Int) - 1) - ((p : Int) - (a' : Int)) = ((a' + n - 1 - (p - a') : Nat) : Int) by omega]
        · rw [if_neg d]; exact ⟨_, _, _, rfl, s1, p1, p2⟩
      have hl2 := s2.len
      rw [e3, bind_some']
      dsimp only
      have fin : ∀ m3, Sw a' (a' + n) m m3 → _ := fun m3 s3 => sortI_mid (N := 12 * 2 ^ f) hless (fun {a b l lim} => ih (a := a) (b := b) (l := l) (lim := lim)) (a := a) (b := b) (a' := a') (b' := a' + n) (p := pv) (l := l) (m := m3) (lim := lm1) (b5 := b5) (b6 := b6) hl hV hb i3 p3 p4 i5 (by omega) (i6.trans (s3.mono i3 i5)) (i7.sw s3 i3 i5 (by omega)) (hfm.sw s3 (by omega)) l0 l1
      by_cases d1 : b5 = true
      · by_cases d2 : b6 = true
        · by_cases d3 : h' = 1
          · obtain ⟨r, m3, e4, s3, a3⟩ := sortI_partial hless (a := a') (b := a' + n) (l := m2) (by omega) (hVm.sw s2 (by omega)) (by omega) (by omega) (hfm.sw s2 (by omega))
            rw [if_pos d1, if_pos d2, if_pos d3, e4, bind_some']
            dsimp only
            rw [ck_some s3.len]
            by_cases d4 : r = true
            · rw [if_pos d4, bind_some']
              have s23 := s2.trans s3
              exact .inr ⟨m3, rfl, i6.trans (s23.mono i3 i5), (i7.sw s23 i3 i5 (by omega)).asc (a3 d4)⟩
            · rw [if_neg d4, bind_some']
              exact fin m3 (s2.trans s3)
          · rw [if_pos d1, if_pos d2, if_neg d3, bind_some']
            exact fin m2 s2
        · rw [if_pos d1, if_neg d2, bind_some']
          exact fin m2 s2
      · rw [if_neg d1, bind_some']
        exact fin m2 s2) (n := 1000000000000000000) (s := (l, (a : Int), (b : Int), lim, true, true)) ⟨a, b, rfl, rfl, Nat.le_refl _, hab, Nat.le_refl _, .refl _, fun p q h1 h2 h3 h4 => by omega, h0, h1⟩ (by dsimp only; omega)
    refine ⟨l', ?_, hq1, hq2⟩
    show slices_pdqsortOrdered_int_S (slices_pdqsortOrdered_int_F (f + 1)) l (a : Int) (b : Int) lim = some l'
    unfold slices_pdqsortOrdered_int_S
    rw [e2, bind_some']
/-- The sort: all is in order, by changing entries over. -/
theorem sortI_all (hless : ∀ x y, V x → V y → ∃ r, cmp_Less_int_F x y = some r ∧ (r = true ↔ κ x < κ y)) {l : List Int} (hn : l.length ≤ 100000000000000000) (hV : AllV V l) : ∃ l', slices_Sort_int_F l = some l' ∧ Sw 0 l.length l l' ∧ AscK κ 0 l.length l' := by
  have hb := blen_le_of (n := l.length) (k := 64) (by omega)
  obtain ⟨l', e, hs, ha⟩ := sortI_pdq hless 99 (a := 0) (b := l.length) (l := l) (lim := (blen l.length : Int)) hn hV (Nat.le_refl _) (Nat.zero_le _) (by
    have : 2 ^ 60 ≤ 2 ^ 99 := Nat.pow_le_pow_right (by decide) (by decide)
    omega) (by omega) (by omega) (.inl rfl)
  unfold slices_Sort_int_F
  rw [u64_small (by omega) (by omega), len_eq (by omega), bind_some']
  have e' : slices_pdqsortOrdered_int_F 100 l 0 (l.length : Int) (blen l.length : Int) = some l' := e
  rw [e', bind_some', ck_some hs.len]
  exact ⟨l', rfl, hs, ha⟩
end
end Go.Proofs.Ytlpelkfcmeapiaa
