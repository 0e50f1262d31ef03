/- Pieces of a flow: what they have on an arc. -/
import Derived.Test.YtfnldmbomampiaaPsplit
namespace Go.Proofs.Ytfnldmbomampiaa
open Go Go.Proofs.Ytfnldmbomampiaa.Sx
set_option linter.unusedVariables false
set_option linter.unusedSimpArgs false
theorem amtL_ge {ps : List Piece} (h : ∀ p, p ∈ ps → 1 ≤ p.amount) (k : Nat) : 0 ≤ amtL ps k ∧ ∀ p, p ∈ ps → p.amount * inA p.arcs k ≤ amtL ps k := by
  induction ps with
  | nil => exact ⟨Int.le_refl _, fun p hp => by cases hp⟩
  | cons q ps ih =>
    obtain ⟨i1, i2⟩ := ih fun p hp => h p (List.mem_cons_of_mem _ hp)
    have hq := h q (List.mem_cons_self ..)
    have h0 := Int.mul_nonneg (a := q.amount) (b := inA q.arcs k) (by omega) (inA01 _ _).1
    refine ⟨by simp only [amtL]; omega, fun p hp => ?_⟩
    simp only [amtL]
    rcases List.mem_cons.1 hp with rfl | hp
    · omega
    · have := i2 p hp; omega
theorem valL_ones {ps : List Piece} (h : ∀ p, p ∈ ps → p.amount = 1) : valL ps = (ps.length : Int) := by
  induction ps with
  | nil => rfl
  | cons q ps ih =>
    have := ih fun p hp => h p (List.mem_cons_of_mem _ hp)
    have := h q (List.mem_cons_self ..)
    simp only [valL, List.length_cons]
    omega
theorem inA_of {arcs : List Int} {i : Nat} (hi : i < arcs.length) (h0 : 0 ≤ arcs.getD i 0) : inA arcs (arcs.getD i 0).toNat = 1 := by
  unfold inA
  rw [if_pos]
  rw [show (((arcs.getD i 0).toNat : Nat) : Int) = arcs.getD i 0 by omega]
  exact mem_getD hi
/-- what is on an arc of a way is at least what the way takes -/
theorem SplitOk.on {n : Net} {f : List Int} {ways rounds : List Piece} (h : SplitOk n f ways rounds) {p : Piece} (hp : p ∈ ways) {i : Nat} (hi : i < p.arcs.length) : p.amount ≤ f.getD (p.arcs.getD i 0).toNat 0 := by
  have hP := h.ws p hp
  have hr := hP.ch.rg i hi
  have a := amtL_ge (ps := ways) (fun q hq => (h.ws q hq).a1) (p.arcs.getD i 0).toNat
  have b := amtL_ge (ps := rounds) (fun q hq => by obtain ⟨b, hb⟩ := h.rs q hq; exact hb.a1) (p.arcs.getD i 0).toNat
  have c := a.2 p hp
  rw [inA_of hi hr.1, Int.mul_one] at c
  rw [h.sum _ (by omega)]
  omega
/-- so much less on all arcs of a chain -/
theorem chain_sub {L : List Arc} {left arcs : List Int} {a b c : Int} {f : Nat → List Int → Option (List Int)} (hl : left.length = L.length) (hch : Chain L arcs a b)
    (hstep : ∀ j l, j < arcs.length → l.length = L.length → l.getD (arcs.getD j 0).toNat 0 = left.getD (arcs.getD j 0).toNat 0 → f j l = some (l.set (arcs.getD j 0).toNat (l.getD (arcs.getD j 0).toNat 0 - c))) :
    ∃ left', forN f arcs.length 0 left = some left' ∧ left'.length = L.length ∧ (∀ k, k < L.length → left'.getD k 0 = left.getD k 0 - c * inA arcs k) ∧ ∀ z, netAt L left' z = netAt L left z - c * ((if a = z then 1 else 0) - (if b = z then 1 else 0)) := by
  obtain ⟨nd, n0, n1, hnd⟩ := hch.nd
  obtain ⟨left', e, i1, i2, i3, i4⟩ := forN_inv (f := f) (fun j (l : List Int) => l.length = L.length ∧ (∀ k, k < L.length → (∀ i, i < j → arcs.getD i 0 ≠ (k : Int)) → l.getD k 0 = left.getD k 0) ∧ (∀ i, i < j → l.getD (arcs.getD i 0).toNat 0 = left.getD (arcs.getD i 0).toNat 0 - c) ∧ ∀ z, netAt L l z = netAt L left z - c * ((if a = z then 1 else 0) - (if nd j = z then 1 else 0))) (n := arcs.length) (k := 0) (s := left) ⟨hl, fun k hk _ => rfl, fun i hi => absurd hi (by omega), fun z => by rw [n0, Int.sub_self, Int.mul_zero, Int.sub_zero]⟩ fun j l _ hj ⟨i1, i2, i3, i4⟩ => by
    have hj' : j < arcs.length := by omega
    have hrg := hch.rg j hj'
    have hk : (arcs.getD j 0).toNat < L.length := by omega
    have hkk : (((arcs.getD j 0).toNat : Nat) : Int) = arcs.getD j 0 := by omega
    have hold := i2 (arcs.getD j 0).toNat hk fun i hi e => by
      have := hch.inj i j (by omega) hj' (by rw [e, hkk])
      omega
    refine ⟨_, hstep j l hj' i1 hold, by simpa using i1, fun k hk2 hi => ?_, fun i hi => ?_, fun z => ?_⟩
    · rw [getD_set', if_neg (fun q => hi j (by omega) (by omega))]
      exact i2 k hk2 fun i hi' => hi i (by omega)
    · rw [getD_set']
      by_cases e : i = j
      · subst e
        rw [if_pos ⟨rfl, by omega⟩, hold]
      · have hri := hch.rg i (by omega)
        rw [if_neg (fun q => e (hch.inj i j (by omega) hj' (by omega)))]
        exact i3 i (by omega)
    · obtain ⟨f1, f2⟩ := hnd j hj'
      unfold arcI at f1 f2
      rw [netAt_set hk i1, i4 z, f1, f2, show l.getD (arcs.getD j 0).toNat 0 - c - l.getD (arcs.getD j 0).toNat 0 = -c by omega, Int.neg_mul, Int.mul_sub, Int.mul_sub, Int.mul_sub]
      omega
  rw [Nat.zero_add] at i2 i3 i4
  refine ⟨left', e, i1, fun k hk => ?_, fun z => by rw [i4 z, n1]⟩
  unfold inA
  by_cases q : (k : Int) ∈ arcs
  · obtain ⟨i, hi, e⟩ := getD_of_mem (d := 0) q
    rw [if_pos q, Int.mul_one]
    have := i3 i hi
    rw [e, Int.toNat_natCast] at this
    exact this
  · rw [if_neg q, Int.mul_zero, Int.sub_zero]
    exact i2 k hk fun i hi e => q (by rw [← e]; exact mem_getD hi)
theorem chain_subC {ρ : Type} {L : List Arc} {left arcs : List Int} {a b c : Int} {f : Nat → List Int → Option (Ct (List Int) ρ)} (hl : left.length = L.length) (hch : Chain L arcs a b)
    (hstep : ∀ j l, j < arcs.length → l.length = L.length → l.getD (arcs.getD j 0).toNat 0 = left.getD (arcs.getD j 0).toNat 0 → f j l = some (.go (l.set (arcs.getD j 0).toNat (l.getD (arcs.getD j 0).toNat 0 - c)))) :
    ∃ left', forC f arcs.length 0 left = some (.go left') ∧ left'.length = L.length ∧ (∀ k, k < L.length → left'.getD k 0 = left.getD k 0 - c * inA arcs k) ∧ ∀ z, netAt L left' z = netAt L left z - c * ((if a = z then 1 else 0) - (if b = z then 1 else 0)) := by
  obtain ⟨nd, n0, n1, hnd⟩ := hch.nd
  obtain ⟨left', e, i1, i2, i3, i4⟩ := forC_inv (f := f) (fun j (l : List Int) => l.length = L.length ∧ (∀ k, k < L.length → (∀ i, i < j → arcs.getD i 0 ≠ (k : Int)) → l.getD k 0 = left.getD k 0) ∧ (∀ i, i < j → l.getD (arcs.getD i 0).toNat 0 = left.getD (arcs.getD i 0).toNat 0 - c) ∧ ∀ z, netAt L l z = netAt L left z - c * ((if a = z then 1 else 0) - (if nd j = z then 1 else 0))) (n := arcs.length) (k := 0) (s := left) ⟨hl, fun k hk _ => rfl, fun i hi => absurd hi (by omega), fun z => by rw [n0, Int.sub_self, Int.mul_zero, Int.sub_zero]⟩ fun j l _ hj ⟨i1, i2, i3, i4⟩ => by
    have hj' : j < arcs.length := by omega
    have hrg := hch.rg j hj'
    have hk : (arcs.getD j 0).toNat < L.length := by omega
    have hkk : (((arcs.getD j 0).toNat : Nat) : Int) = arcs.getD j 0 := by omega
    have hold := i2 (arcs.getD j 0).toNat hk fun i hi e => by
      have := hch.inj i j (by omega) hj' (by rw [e, hkk])
      omega
    refine ⟨_, hstep j l hj' i1 hold, by simpa using i1, fun k hk2 hi => ?_, fun i hi => ?_, fun z => ?_⟩
    · rw [getD_set', if_neg (fun q => hi j (by omega) (by omega))]
      exact i2 k hk2 fun i hi' => hi i (by omega)
    · rw [getD_set']
      by_cases e : i = j
      · subst e
        rw [if_pos ⟨rfl, by omega⟩, hold]
      · have hri := hch.rg i (by omega)
        rw [if_neg (fun q => e (hch.inj i j (by omega) hj' (by omega)))]
        exact i3 i (by omega)
    · obtain ⟨f1, f2⟩ := hnd j hj'
      unfold arcI at f1 f2
      rw [netAt_set hk i1, i4 z, f1, f2, show l.getD (arcs.getD j 0).toNat 0 - c - l.getD (arcs.getD j 0).toNat 0 = -c by omega, Int.neg_mul, Int.mul_sub, Int.mul_sub, Int.mul_sub]
      omega
  rw [Nat.zero_add] at i2 i3 i4
  refine ⟨left', e, i1, fun k hk => ?_, fun z => by rw [i4 z, n1]⟩
  unfold inA
  by_cases q : (k : Int) ∈ arcs
  · obtain ⟨i, hi, e⟩ := getD_of_mem (d := 0) q
    rw [if_pos q, Int.mul_one]
    have := i3 i hi
    rw [e, Int.toNat_natCast] at this
    exact this
  · rw [if_neg q, Int.mul_zero, Int.sub_zero]
    exact i2 k hk fun i hi e => q (by rw [← e]; exact mem_getD hi)
theorem growP_eq {n : Nat} (hn : n ≤ 100000000) : slices_Grow_Piece_F ((n : Nat) : Int) = some [] := by
  unfold slices_Grow_Piece_F
  rw [if_neg (by omega), bind_some', ck_some (inI_small (by omega) (by omega)), ck_some (inI_small (by omega) (by omega))]
  split
  · rw [ck_some ⟨by omega, by omega⟩]; simp [subl]
  · rfl
theorem concatP_eq {l m : List Piece} (hl : l.length ≤ 1000000) (hm : m.length ≤ 1000000) : slices_Concat_Piece_F [l, m] = some (l ++ m) := by
  unfold slices_Concat_Piece_F
  have e1 : forN (slices_Concat_Piece_B1 [l, m]) 2 0 0 = some (l.length + m.length) := by
    simp only [forN, slices_Concat_Piece_B1, List.getD_cons_zero, List.getD_cons_succ]
    rw [ck_some (inI_small (by omega) (by omega)), if_neg (by omega)]
    simp only [bind_some', Nat.zero_add]
    rw [ck_some (inI_small (by omega) (by omega)), if_neg (by omega)]
    rfl
  have e2 : forN (slices_Concat_Piece_B2 [l, m]) 2 0 [] = some (l ++ m) := by
    simp only [forN, slices_Concat_Piece_B2, List.getD_cons_zero, List.getD_cons_succ]
    rw [ck_some (by simp; omega)]
    simp only [bind_some', Nat.zero_add, List.nil_append]
    rw [ck_some (by omega)]
    rfl
  show (forN (slices_Concat_Piece_B1 [l, m]) 2 0 0).bind _ = _
  rw [e1, bind_some', growP_eq (by omega), bind_some']
  show (forN (slices_Concat_Piece_B2 [l, m]) 2 0 []).bind _ = _
  rw [e2]; rfl
theorem amtL_app (ps qs : List Piece) (k : Nat) : amtL (ps ++ qs) k = amtL ps k + amtL qs k := by
  induction ps with
  | nil => simp [amtL]
  | cons p ps ih => simp only [List.cons_append, amtL, ih]; omega
end Go.Proofs.Ytfnldmbomampiaa
