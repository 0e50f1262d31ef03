/- The sort sortI: of at most 12 entries it puts them in order, by changing entries over. -/
import Derived.Test.YtlpelkfcmeapiaaPsort
import Derived.Test.YtlpelkfcmeapiaaGslices
namespace Go.Proofs.Ytlpelkfcmeapiaa
open Go Go.Proofs.Ytlpelkfcmeapiaa.Sx
set_option linter.unusedVariables false
set_option linter.unusedSimpArgs false
section
variable {κ : Int → Int} {V : Int → Prop} 
theorem sortI_inner (hless : ∀ x y, V x → V y → ∃ r, cmp_Less_int_F x y = some r ∧ (r = true ↔ κ x < κ y)) {a x : Nat} {l : List Int} (hl : l.length ≤ 999) (hV : AllV V l) (hx : x < l.length) (hax : a ≤ x) (hs : AscK κ a x l) :
    ∃ l' x', loopC (slices_insertionSortOrdered_int_B2 (a : Int)) 1000000 (l, (x : Int)) = some (.go (l', x')) ∧ Sw a (x + 1) l l' ∧ AscK κ a (x + 1) l' := by
  obtain ⟨q, e, ⟨l', x'⟩, rfl, hq⟩ := loopC_or (f := slices_insertionSortOrdered_int_B2 (a : Int)) (fun σ => Sw a (x + 1) l σ.1 ∧ (a : Int) ≤ σ.2 ∧ σ.2 ≤ x ∧ InsK κ a x σ.2.toNat σ.1) (fun q => ∃ σ, q = .go σ ∧ Sw a (x + 1) l σ.1 ∧ AscK κ a (x + 1) σ.1) (fun σ => σ.2.toNat) (fun σ ⟨i1, i2, i3, i4⟩ => by
    obtain ⟨m, y⟩ := σ
    dsimp only at i1 i2 i3 i4
    have hlen := i1.len
    have hVm := hV.sw i1 (by omega)
    obtain ⟨y, rfl⟩ := Int.eq_ofNat_of_zero_le (show 0 ≤ y by omega)
    rw [Int.toNat_natCast] at i4
    unfold slices_insertionSortOrdered_int_B2
    dsimp only
    by_cases c : (a : Int) < (y : Int)
    · have ey : ((y : Int) - 1).toNat = y - 1 := by omega
      obtain ⟨r, er, hr⟩ := hless (m.getD y 0) (m.getD (y - 1) 0) (hVm y (by omega)) (hVm (y - 1) (by omega))
      rw [if_pos c, ck_some (by omega), ck_some (inI_small (by omega) (by omega)), ck_some (by omega), ey, Int.toNat_natCast, er, bind_some']
      by_cases c2 : κ (m.getD y 0) < κ (m.getD (y - 1) 0)
      · rw [if_pos (hr.2 c2)]
        exact .inl ⟨_, rfl, ⟨i1.step ⟨by omega, by omega⟩ ⟨by omega, by omega⟩, by show (a : Int) ≤ (y : Int) - 1; omega, by show (y : Int) - 1 ≤ _; omega, by
          show InsK κ a x ((y : Int) - 1).toNat _
          rw [ey]
          exact i4.step (by omega) (by omega) (by omega) (by omega)⟩, by show ((y : Int) - 1).toNat < ((y : Nat) : Int).toNat; omega⟩
      · rw [if_neg (fun z => c2 (hr.1 z))]
        exact .inr (.inl ⟨_, rfl, _, rfl, i1, i4.done (.inr (by omega))⟩)
    · rw [if_neg c]
      exact .inr (.inl ⟨_, rfl, _, rfl, i1, i4.done (.inl (by omega))⟩)) (n := 1000000) (s := (l, (x : Int))) ⟨.refl _, by show (a : Int) ≤ x; omega, by show (x : Int) ≤ x; omega, by
      show InsK κ a x ((x : Int)).toNat l
      rw [Int.toNat_natCast]
      exact ⟨fun p q ha hpq hq hp1 hq1 => hs p q ha hpq (by omega), fun q h1 h2 => by omega⟩⟩ (by show ((x : Nat) : Int).toNat < _; omega)
  exact ⟨l', x', e, hq⟩
theorem sortI_ins (hless : ∀ x y, V x → V y → ∃ r, cmp_Less_int_F x y = some r ∧ (r = true ↔ κ x < κ y)) {a b : Nat} {l : List Int} (hl : l.length ≤ 999) (hV : AllV V l) (hb : b ≤ l.length) (hab : a ≤ b) : ∃ l', slices_insertionSortOrdered_int_F l (a : Int) (b : Int) = some l' ∧ Sw a b l l' ∧ AscK κ a b l' := by
  obtain ⟨q, e, ⟨l', x'⟩, rfl, hq⟩ := loopC_or (f := slices_insertionSortOrdered_int_B1 (a : Int) (b : Int)) (fun σ => Sw a b l σ.1 ∧ (a : Int) + 1 ≤ σ.2 ∧ AscK κ a (min σ.2.toNat b) σ.1) (fun q => ∃ σ, q = .go σ ∧ Sw a b l σ.1 ∧ AscK κ a b σ.1) (fun σ => ((b : Int) - σ.2).toNat) (fun σ ⟨i1, i2, i3⟩ => by
    obtain ⟨m, x⟩ := σ
    dsimp only at i1 i2 i3
    have hlen := i1.len
    have hVm := hV.sw i1 hb
    obtain ⟨x, rfl⟩ := Int.eq_ofNat_of_zero_le (show 0 ≤ x by omega)
    rw [Int.toNat_natCast] at i3
    unfold slices_insertionSortOrdered_int_B1
    dsimp only
    by_cases c : (x : Int) < (b : Int)
    · rw [Nat.min_eq_left (by omega)] at i3
      obtain ⟨l', x', e, ho, hs⟩ := sortI_inner hless (by omega) hVm (show x < m.length by omega) (by omega) i3
      rw [if_pos c, e, bind_some']
      dsimp only
      rw [ck_some (inI_small (by omega) (by omega))]
      refine .inl ⟨_, rfl, ⟨i1.trans (ho.mono (Nat.le_refl _) (by omega)), by show (a : Int) + 1 ≤ (x : Int) + 1; omega, ?_⟩, by show ((b : Int) - ((x : Int) + 1)).toNat < ((b : Int) - (x : Int)).toNat; omega⟩
      show AscK κ a (min ((x : Int) + 1).toNat b) l'
      rw [show min ((x : Int) + 1).toNat b = x + 1 by omega]; exact hs
    · rw [if_neg c]
      rw [Nat.min_eq_right (by omega)] at i3
      exact .inr (.inl ⟨_, rfl, _, rfl, i1, i3⟩)) (n := 1000000) (s := (l, (a : Int) + 1)) ⟨.refl _, by show (a : Int) + 1 ≤ (a : Int) + 1; omega, fun p q h1 h2 h3 => by
      have : q < min ((a : Int) + 1).toNat b := h3
      omega⟩ (by show ((b : Int) - ((a : Int) + 1)).toNat < _; omega)
  unfold slices_insertionSortOrdered_int_F
  rw [ck_some (inI_small (by omega) (by omega)), e, bind_some']
  exact ⟨l', rfl, hq⟩
theorem sortI_12 (hless : ∀ x y, V x → V y → ∃ r, cmp_Less_int_F x y = some r ∧ (r = true ↔ κ x < κ y)) {l : List Int} (hn : l.length ≤ 12) (hV : AllV V l) : ∃ l', slices_Sort_int_F l = some l' ∧ Sw 0 l.length l l' ∧ AscK κ 0 l.length l' := by
  obtain ⟨l', e, ho, hs⟩ := sortI_ins hless (a := 0) (b := l.length) (l := l) (by omega) hV (Nat.le_refl _) (Nat.zero_le _)
  have hlen := ho.len
  obtain ⟨r, er⟩ := Option.isSome_iff_exists.1 (lenO_table ⟨l.length, by omega⟩)
  have er' : bits_Len_F (IntKind.u64.wrap ((l.length : Nat) : Int)) = some r := er
  obtain ⟨q, e2, rfl⟩ := loopC_or (f := slices_pdqsortOrdered_int_B1 l 0 (l.length : Int) r) (fun _ => True) (fun q => q = .ret l') (fun _ => 0) (fun σ _ => by
    unfold slices_pdqsortOrdered_int_B1
    rw [ck_some (inI_small (by omega) (by omega)), if_pos (by omega)]
    rw [show ((0 : Nat) : Int) = 0 from rfl] at e
    rw [e, bind_some', ck_some (by omega)]
    exact .inr (.inr ⟨_, rfl, rfl⟩)) (n := 1000000) (s := ()) trivial (by omega)
  have e3 : slices_pdqsortOrdered_int_F 100 l 0 (l.length : Int) r = some l' := by
    show slices_pdqsortOrdered_int_S (slices_pdqsortOrdered_int_F 99) l 0 (l.length : Int) r = some l'
    unfold slices_pdqsortOrdered_int_S
    rw [e2, bind_some']
  unfold slices_Sort_int_F
  rw [er', bind_some', e3, bind_some', ck_some (by omega)]
  exact ⟨l', rfl, ho, hs⟩
end
end Go.Proofs.Ytlpelkfcmeapiaa
