/- GaleTwice: the law's function answers true. -/
import Derived.Test.YtdpkdicciclobaaPturned
import Derived.Test.YtdpkdicciclobaaKGaleTwice
namespace Go.Proofs.Ytdpkdicciclobaa
open Go Go.Proofs.Ytdpkdicciclobaa.Sx
set_option linter.unusedVariables false
set_option linter.unusedSimpArgs false
theorem turned31 : gale_Turned_F ([3, 1] : List Int) = some ([2, 1, 1], 0) := by kernel_rfl
theorem equal211 : slices_Equal_int_F [2, 1, 1] ([2, 1, 1] : List Int) = some true := by kernel_rfl
theorem equalT_eq (l m : List Int) : slices_Equal_int_F l m = some (decide (l = m)) := by
  unfold slices_Equal_int_F
  by_cases c : ((l.length : Nat) : Int) ≠ ((m.length : Nat) : Int)
  · rw [if_pos c, decide_eq_false]
    exact fun h => c (by rw [h])
  rw [if_neg c]
  obtain ⟨q, e, hq⟩ := forC_or (f := slices_Equal_int_B1 l m) (fun k _ => ∀ i, i < k → l.getD i 0 = m.getD i 0) (fun q => match q with | .go _ => ∀ i, i < l.length → l.getD i 0 = m.getD i 0 | .ret r => r = false ∧ l ≠ m) (n := l.length) (k := 0) (s := ()) (fun i hi => absurd hi (by omega)) (fun k _ _ hk i1 => by
    unfold slices_Equal_int_B1
    rw [ck_some (by omega)]
    by_cases d : l.getD k 0 ≠ m.getD k 0
    · rw [if_pos d]
      exact .inr (.inr ⟨_, rfl, rfl, fun h => d (by rw [h])⟩)
    · rw [if_neg d]
      refine .inl ⟨_, rfl, fun i hi => ?_⟩
      by_cases z : i = k
      · rw [z]; exact Classical.byContradiction d
      · exact i1 i (by omega)) (fun _ h => by rw [Nat.zero_add] at h; exact h)
  rw [e, bind_some']
  match q, hq with
  | .go _, h => dsimp only; rw [decide_eq_true (eq_of_getD (d := 0) (by omega) h)]
  | .ret r, ⟨h1, h2⟩ => dsimp only; rw [h1, decide_eq_false h2]
theorem cloneT_eq {l : List Int} (h : l.length ≤ 1000) : slices_Clone_int_F l = some l := by
  unfold slices_Clone_int_F
  rw [ck_some (by omega), List.nil_append]
/-! ### what is not 0 -/
def nz (l : List Int) : List Int := l.filter fun x => decide (x ≠ 0)
theorem take_snoc {l : List Int} {j : Nat} (h : j < l.length) : l.take (j + 1) = l.take j ++ [l.getD j 0] := by
  rw [List.take_add_one]; simp [h]
theorem nz_snoc (l : List Int) (x : Int) : nz (l ++ [x]) = nz l ++ if x = 0 then [] else [x] := by
  unfold nz
  rw [List.filter_append]
  by_cases c : x = 0 <;> simp [c]
theorem nz_id {l : List Int} (h : ∀ i, i < l.length → l.getD i 0 ≠ 0) : nz l = l := by
  unfold nz
  refine List.filter_eq_self.2 fun x hx => ?_
  obtain ⟨i, hi, e⟩ := getD_of_mem (d := 0) hx
  rw [← e]; exact decide_eq_true (h i hi)
theorem delete_eq {l : List Int} (hl : l.length ≤ 1000) : slices_DeleteFunc_int_weirkeep_GaleTwice_c1_F l = some (nz l) := by
  unfold slices_DeleteFunc_int_weirkeep_GaleTwice_c1_F
  obtain ⟨q, e, hq⟩ := forC_or (f := slices_IndexFunc_int_weirkeep_GaleTwice_c1_B1 l) (fun k _ => ∀ i, i < k → l.getD i 0 ≠ 0) (fun q => match q with | .go _ => ∀ i, i < l.length → l.getD i 0 ≠ 0 | .ret r => ∃ k : Nat, r = (k : Int) ∧ k < l.length ∧ l.getD k 0 = 0 ∧ ∀ i, i < k → l.getD i 0 ≠ 0) (n := l.length) (k := 0) (s := ()) (fun i hi => absurd hi (by omega)) (fun k _ _ hk i1 => by
    unfold slices_IndexFunc_int_weirkeep_GaleTwice_c1_B1 weirkeep_GaleTwice_c1_F
    rw [bind_some']
    by_cases d : l.getD k 0 = 0
    · rw [if_pos (decide_eq_true d)]
      exact .inr (.inr ⟨_, rfl, k, rfl, by omega, d, i1⟩)
    · rw [if_neg (by rw [decide_eq_false d]; decide)]
      refine .inl ⟨_, rfl, fun i hi => ?_⟩
      by_cases z : i = k
      · rw [z]; exact d
      · exact i1 i (by omega)) (fun _ h => by rw [Nat.zero_add] at h; exact h)
  have eF : ∀ r, (∀ x, q = .ret x → x = r) → (∀ x, q = .go x → r = -1) → slices_IndexFunc_int_weirkeep_GaleTwice_c1_F l = some r := fun r h1 h2 => by
    unfold slices_IndexFunc_int_weirkeep_GaleTwice_c1_F
    rw [e, bind_some']
    cases q with
    | go x => exact congrArg some (h2 x rfl).symm
    | ret x => exact congrArg some (h1 x rfl)
  match q, hq, eF with
  | .go _, h, eF =>
    rw [eF (-1) (fun x hx => by cases hx) (fun _ _ => rfl)]
    rw [bind_some', if_pos rfl, nz_id h]
  | .ret r, ⟨k, hr, hk, h0, hlo⟩, eF =>
    subst hr
    rw [eF (k : Int) (fun x hx => by injection hx with hx; exact hx.symm) (fun x hx => by cases hx)]
    rw [bind_some', if_neg (by omega), ck_some (inI_small (by omega) (by omega))]
    have start : nz (l.take (k + 1)) = l.take k := by
      rw [take_snoc hk, nz_snoc, h0, if_pos rfl, List.append_nil]
      refine nz_id fun i hi => ?_
      rw [List.length_take] at hi
      rw [List.getD_eq_getElem?_getD, List.getElem?_take, if_pos (by omega), ← List.getD_eq_getElem?_getD]
      exact hlo i (by omega)
    obtain ⟨q, e2, ⟨m, x, y⟩, rfl, h1, h2, h3, h4⟩ := loopC_or (f := slices_DeleteFunc_int_weirkeep_GaleTwice_c1_B1) (fun σ => σ.1.length = l.length ∧ 0 ≤ σ.2.1 ∧ σ.2.1 < σ.2.2 ∧ σ.2.2 ≤ l.length ∧ σ.1.take σ.2.1.toNat = nz (l.take σ.2.2.toNat) ∧ ∀ p, σ.2.2.toNat ≤ p → σ.1.getD p 0 = l.getD p 0)
      (fun q => ∃ σ, q = .go σ ∧ σ.1.length = l.length ∧ 0 ≤ σ.2.1 ∧ σ.2.1 ≤ l.length ∧ σ.1.take σ.2.1.toNat = nz l) (fun σ => ((l.length : Int) - σ.2.2).toNat) (fun σ ⟨i1, i2, i3, i4, i5, i6⟩ => by
      obtain ⟨m, x, y⟩ := σ
      dsimp only at i1 i2 i3 i4 i5 i6
      unfold slices_DeleteFunc_int_weirkeep_GaleTwice_c1_B1 weirkeep_GaleTwice_c1_F
      dsimp only
      by_cases c : y < ((m.length : Nat) : Int)
      · obtain ⟨y, rfl⟩ := Int.eq_ofNat_of_zero_le (show 0 ≤ y by omega)
        obtain ⟨x, rfl⟩ := Int.eq_ofNat_of_zero_le i2
        simp only [Int.toNat_natCast] at i5 i6 ⊢
        have hy : y < l.length := by omega
        have ey := i6 y (Nat.le_refl _)
        rw [if_pos c, ck_some (by omega), bind_some']
        have snoc := nz_snoc (l.take y) (l.getD y 0)
        rw [← take_snoc hy] at snoc
        by_cases d : l.getD y 0 = 0
        · rw [if_neg (by rw [decide_eq_true (ey.trans d)]; decide), ck_some (inI_small (by omega) (by omega))]
          rw [if_pos d, List.append_nil] at snoc
          refine .inl ⟨_, rfl, ⟨i1, i2, by dsimp only; omega, by dsimp only; omega, ?_, fun p hp => ?_⟩, by dsimp only; omega⟩
          · show m.take ((x : Nat) : Int).toNat = nz (l.take ((y : Int) + 1).toNat)
            rw [Int.toNat_natCast, show ((y : Int) + 1).toNat = y + 1 by omega, snoc, i5]
          · have : ((y : Int) + 1).toNat ≤ p := hp
            exact i6 p (by omega)
        · rw [if_pos (by rw [decide_eq_false (fun w => d (ey.symm.trans w))]; decide), ck_some (by omega), ck_some (inI_small (by omega) (by omega)), ck_some (inI_small (by omega) (by omega))]
          rw [if_neg d] at snoc
          refine .inl ⟨_, rfl, ⟨by dsimp only; rw [List.length_set, i1], by dsimp only; omega, by dsimp only; omega, by dsimp only; omega, ?_, fun p hp => ?_⟩, by dsimp only; omega⟩
          · show (m.set x (m.getD y 0)).take ((x : Int) + 1).toNat = nz (l.take ((y : Int) + 1).toNat)
            rw [ey, show ((x : Int) + 1).toNat = x + 1 by omega, show ((y : Int) + 1).toNat = y + 1 by omega, snoc, ← i5, take_snoc (by rw [List.length_set]; omega), getD_set', if_pos ⟨rfl, by omega⟩, List.take_set_of_le (Nat.le_refl _)]
          · have : ((y : Int) + 1).toNat ≤ p := hp
            show (m.set x (m.getD y 0)).getD p 0 = l.getD p 0
            rw [getD_set', if_neg (by omega)]; exact i6 p (by omega)
      · rw [if_neg c]
        refine .inr (.inl ⟨_, rfl, _, rfl, i1, i2, by dsimp only; omega, ?_⟩)
        dsimp only
        rw [i5, List.take_of_length_le (by omega)]) (n := 1000000) (s := (l, (k : Int), (k : Int) + 1)) ⟨rfl, by dsimp only; omega, by dsimp only; omega, by dsimp only; omega, by
        dsimp only
        rw [Int.toNat_natCast, show ((k : Int) + 1).toNat = k + 1 by omega, start], fun _ _ => rfl⟩ (by dsimp only; omega)
    dsimp only at h1 h2 h3 h4
    rw [e2, bind_some']
    dsimp only
    rw [ck_some h2, ck_some (by omega)]
    congr 1
    unfold subl
    rw [List.drop_zero, List.drop_zero, List.take_take, Nat.min_self, h4]
/-! ### how many are above -/
theorem above_take (l : List Int) (k : Nat) : ∀ j, j ≤ l.length → above l k j = (((l.take j).countP fun x => decide ((k : Int) < x) : Nat) : Int)
  | 0, _ => by simp [above, tot]
  | j + 1, h => by
    have := above_take l k j (by omega)
    rw [take_snoc (by omega), List.countP_append]
    have e : above l k (j + 1) = above l k j + if (k : Int) < l.getD j 0 then 1 else 0 := rfl
    rw [e, this]
    by_cases c : (k : Int) < l.getD j 0 <;> simp [c, List.countP_cons, -List.getD_eq_getElem?_getD]
theorem above_count (l : List Int) (k : Nat) : above l k l.length = ((l.countP fun x => decide ((k : Int) < x) : Nat) : Int) := by
  have := above_take l k l.length (Nat.le_refl _)
  rwa [List.take_length] at this
theorem above_nz (l : List Int) (k : Nat) : above (nz l) k (nz l).length = above l k l.length := by
  rw [above_count, above_count]
  unfold nz
  rw [List.countP_filter]
  congr 1
  refine List.countP_congr fun x _ => ?_
  by_cases c : (k : Int) < x
  · have : x ≠ 0 := by omega
    simp [c, this]
  · simp [c]
theorem above_sw {l c : List Int} (h : Sw 0 l.length l c) (k : Nat) : above c k c.length = above l k l.length := by
  have hl := h.len
  rw [hl]
  have := h.inv (P := fun x => x.length = l.length ∧ above x k l.length = above l k l.length) (fun x i j _ h1 _ h2 ⟨x1, x2⟩ => ⟨by rw [swapL_len]; exact x1, by
    rw [← x2]
    unfold above
    rw [← tot_swapJ (fun i => if (k : Int) < x.getD i 0 then (1 : Int) else 0) h1 h2]
    exact tot_congr fun p _ => by rw [swapL_getD (by omega) (by omega)]⟩) ⟨rfl, rfl⟩
  exact this.2
/-- the greatest first: so many are above just if this one is -/
theorem above_desc {c : List Int} (hd : ∀ p q, p < q → q < c.length → c.getD q 0 ≤ c.getD p 0) {j : Nat} (hj : j < c.length) (k : Nat) : (j : Int) < above c k c.length ↔ (k : Int) < c.getD j 0 := by
  constructor
  · intro h
    refine Classical.byContradiction fun w => ?_
    have h1 : above c k c.length ≤ tot (fun p => if p < j then 1 else 0) c.length := tot_le fun p hp => by
      by_cases z : p < j
      · rw [if_pos z]; split <;> omega
      · rw [if_neg z, if_neg]
        · exact Int.le_refl _
        · by_cases y : p = j
          · rw [y]; exact w
          · have := hd j p (by omega) hp; omega
    have h2 : ∀ m, tot (fun p => if p < j then (1 : Int) else 0) m ≤ j := fun m => by
      have h3 : tot (fun p => if p < j then (1 : Int) else 0) m = min (m : Int) j := by
        induction m with
        | zero => simp [tot]; omega
        | succ m ih => rw [tot, ih]; split <;> omega
      omega
    have := h2 c.length
    omega
  · intro h
    have h1 : tot (fun p => if p < j + 1 then 1 else 0) c.length ≤ above c k c.length := tot_le fun p hp => by
      by_cases z : p < j + 1
      · rw [if_pos z, if_pos]
        · exact Int.le_refl _
        · by_cases y : p = j
          · rw [y]; exact h
          · have := hd p j (by omega) hj; omega
      · rw [if_neg z]; split <;> omega
    have h3 : ∀ m, tot (fun p => if p < j + 1 then (1 : Int) else 0) m = min (m : Int) (j + 1) := fun m => by
      induction m with
      | zero => simp [tot]; omega
      | succ m ih => rw [tot, ih]; split <;> omega
    rw [h3] at h1
    omega
theorem tot_below {T : Nat} {c : Int} (h0 : 0 ≤ c) (h1 : c ≤ T) : tot (fun k => if (k : Int) < c then 1 else 0) T = c := by
  have h3 : ∀ m : Nat, tot (fun k => if (k : Int) < c then (1 : Int) else 0) m = min (m : Int) c := fun m => by
    induction m with
    | zero => simp [tot]; omega
    | succ m ih => rw [tot, ih]; split <;> omega
  rw [h3]; omega
theorem isT_turn {rows cols : List Int} : (∃ M, IsT rows cols M) → ∃ M, IsT cols rows M := fun ⟨M, m1, m2, m3⟩ => ⟨fun i k => M k i, fun i k => m1 k i, m3, m2⟩
theorem make_same (rows cols : List Int) : ∃ o1 e1 o2 e2, gale_Make_F rows cols = some (o1, e1) ∧ gale_Make_F cols rows = some (o2, e2) ∧ (e1 = 0 ↔ e2 = 0) := by
  have half : ∀ rows cols : List Int, ∃ o e, gale_Make_F rows cols = some (o, e) ∧ ((¬ OkG rows cols ∧ e ≠ 0) ∨ OkG rows cols ∧ (e = 0 ↔ ∃ M, IsT rows cols M)) := fun rows cols => by
    obtain ⟨o, e, h, h2⟩ := make_is rows cols
    refine ⟨o, e, h, ?_⟩
    by_cases hg : OkG rows cols
    · refine .inr ⟨hg, ?_⟩
      rcases h2 with ⟨h3, _⟩ | ⟨_, h3⟩
      · refine ⟨fun w => absurd w h3, fun ⟨M, m1, m2, m3⟩ => ?_⟩
        obtain ⟨out, e'⟩ := make_complete hg ⟨M, m1, fun i hi => by rw [Nat.zero_add]; exact m2 i (by omega), fun k hk => by rw [Nat.sub_zero]; exact m3 k hk⟩
        rw [h] at e'
        injection e' with e'
        injection e'
      · exact h3
    · rcases h2 with ⟨h3, _⟩ | ⟨h3, _⟩
      · exact .inl ⟨hg, h3⟩
      · exact absurd h3 hg
  obtain ⟨o1, e1, h1, c1⟩ := half rows cols
  obtain ⟨o2, e2, h2, c2⟩ := half cols rows
  refine ⟨o1, e1, o2, e2, h1, h2, ?_⟩
  have sy : ∀ rows cols : List Int, OkG rows cols → OkG cols rows := fun rows cols h => ⟨h.c, h.r, h.cs, h.rs⟩
  rcases c1 with ⟨g1, w1⟩ | ⟨g1, w1⟩
  · rcases c2 with ⟨g2, w2⟩ | ⟨g2, w2⟩
    · exact ⟨fun z => absurd z w1, fun z => absurd z w2⟩
    · exact absurd (sy _ _ g2) g1
  · rcases c2 with ⟨g2, w2⟩ | ⟨g2, w2⟩
    · exact absurd (sy _ _ g1) g2
    · rw [w1, w2]; exact ⟨isT_turn, isT_turn⟩
theorem GaleTwice_true (rows cols : List Int) : weirkeep_GaleTwice_F rows cols = some true := by
  obtain ⟨o1, e1, o2, e2, m1, m2, m3⟩ := make_same rows cols
  unfold weirkeep_GaleTwice_F
  rw [turned31, bind_some']
  dsimp only
  rw [if_neg (by decide), equal211, bind_some', if_neg (by decide)]
  rcases turned_cases rows with ⟨t, et, ht, hr, hrs⟩ | ⟨f, hf, ef, _⟩
  case inr =>
    rw [ef, bind_some']
    dsimp only
    rcases turned_cases [] with ⟨t, et, _⟩ | ⟨f', _, et, _⟩
    · rw [et, bind_some']
      dsimp only
      rw [m1, bind_some', m2, bind_some', if_pos hf, decide_eq_true hf]
    · rw [et, bind_some']
      dsimp only
      rw [m1, bind_some', m2, bind_some', if_pos hf, decide_eq_true hf]
  rw [et, bind_some']
  dsimp only
  have tb : ∀ i, i < t.length → 0 ≤ t.getD i 0 ∧ t.getD i 0 ≤ 12 := fun i hi => by
    have := above_b rows i rows.length
    rw [ht.at' i hi]; omega
  rcases turned_cases t with ⟨u, eu, hu, _, _⟩ | ⟨f, hf, ef, hbad⟩
  case inr => exact absurd ⟨ht.len, tb⟩ hbad
  rw [eu, bind_some']
  dsimp only
  have hnl : (nz rows).length ≤ rows.length := List.length_filter_le ..
  obtain ⟨a, c, es, la, er, lc, sw, desc⟩ := desc_ok (l := nz rows) (by omega)
  rw [m1, bind_some', m2, bind_some', if_neg (by decide), if_neg (by decide), cloneT_eq (by omega), bind_some', delete_eq (by omega), bind_some', es, bind_some', ck_some la, er, bind_some', ck_some lc, equalT_eq, bind_some']
  have ab : ∀ k, above c k c.length = above rows k rows.length := fun k => by rw [above_sw sw, above_nz]
  have cpos : ∀ j, j < c.length → 0 < c.getD j 0 ∧ c.getD j 0 ≤ t.length := fun j hj => by
    have h1 : c.getD j 0 ∈ nz rows := sw.mem (Nat.le_refl _) (mem_getD hj)
    obtain ⟨h2, h3⟩ := List.mem_filter.1 h1
    have h3 := of_decide_eq_true h3
    obtain ⟨i, hi, ei⟩ := getD_of_mem (d := 0) h2
    have h4 := hrs i hi
    have h5 := ht.top i hi
    omega
  have many : above rows 0 rows.length = c.length := by
    rw [← ab 0]
    have : above c 0 c.length = tot (fun _ => 1) c.length := tot_congr fun i hi => if_pos (cpos i hi).1
    rw [this, tot_const]; omega
  have mono : ∀ k, above rows k rows.length ≤ above rows 0 rows.length := fun k => tot_le fun i _ => by
    by_cases w : (k : Int) < rows.getD i 0
    · rw [if_pos w, if_pos (by omega)]; exact Int.le_refl _
    · rw [if_neg w]; split <;> omega
  have ulen : u.length = c.length := by
    have h1 : c.length ≤ u.length := by
      by_cases z : c.length = 0
      · omega
      · have h2 := cpos 0 (by omega)
        have h3 := hu.top 0 (by omega)
        rw [ht.at' 0 (by omega), many] at h3
        omega
    refine Classical.byContradiction fun w => ?_
    obtain ⟨i, hi, hlt⟩ := hu.reach c.length (by omega)
    rw [ht.at' i hi] at hlt
    have := mono i
    omega
  have huc : u = c := eq_of_getD (d := 0) ulen fun j hj => by
    rw [hu.at' j hj]
    have hj' : j < c.length := by omega
    have h1 := cpos j hj'
    have : above t j t.length = tot (fun k => if (k : Int) < c.getD j 0 then 1 else 0) t.length := tot_congr fun k hk => by
      rw [ht.at' k hk, ← ab k]
      have := above_desc (fun p q h1 h2 => desc p q h1 (by omega)) hj' k
      by_cases w : (k : Int) < c.getD j 0
      · rw [if_pos w, if_pos (this.2 w)]
      · rw [if_neg w, if_neg fun z => w (this.1 z)]
    rw [this, tot_below (by omega) h1.2]
  rw [if_pos (decide_eq_true huc), decide_eq_true]
  by_cases z : e1 = 0
  · rw [decide_eq_true z, decide_eq_true (m3.1 z)]
  · rw [decide_eq_false z, decide_eq_false fun w => z (m3.2 w)]
end Go.Proofs.Ytdpkdicciclobaa
