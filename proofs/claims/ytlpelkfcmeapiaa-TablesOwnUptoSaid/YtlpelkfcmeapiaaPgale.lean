/- Package gale: what Make makes. -/
import Derived.Test.YtlpelkfcmeapiaaPbits
import Derived.Test.YtlpelkfcmeapiaaPlA
import Derived.Test.YtlpelkfcmeapiaaGgale
import Derived.Test.YtlpelkfcmeapiaaPones
namespace Go.Proofs.Ytlpelkfcmeapiaa
open Go Go.Proofs.Ytlpelkfcmeapiaa.Sx
set_option linter.unusedVariables false
set_option linter.unusedSimpArgs false
theorem cmp_any (a b : Int) : ∃ r, cmp_Compare_int_F a b = some r := by
  unfold cmp_Compare_int_F cmp_isNaN_int_F
  simp only [bind_some']
  repeat' split
  all_goals exact ⟨_, rfl⟩
theorem or_any (x y : Int) : ∃ r, cmp_Or_int_F [x, y] = some r := by
  obtain ⟨q, e, _⟩ := forC_or (f := cmp_Or_int_B1 [x, y]) (fun _ _ => True) (fun _ => True) (n := [x, y].length) (k := 0) (s := ()) trivial (fun j s _ _ _ => by
    unfold cmp_Or_int_B1
    split
    · exact .inr (.inr ⟨_, rfl, trivial⟩)
    · exact .inl ⟨(), rfl, trivial⟩) (fun _ _ => trivial)
  unfold cmp_Or_int_F
  rw [e, bind_some']
  cases q <;> exact ⟨_, rfl⟩
/-- each number below n, once -/
structure Ord (n : Nat) (l : List Int) : Prop where
  len : l.length = n
  rg : ∀ p, p < n → 0 ≤ l.getD p 0 ∧ l.getD p 0 < n
  inj : ∀ p q, p < n → q < n → l.getD p 0 = l.getD q 0 → p = q
def swapI (i j p : Nat) : Nat := if p = j then i else if p = i then j else p
theorem swap_getD {n : Nat} {l : List Int} (hl : l.length = n) {i j : Nat} (hi : i < n) (hj : j < n) (p : Nat) : ((l.set i (l.getD j 0)).set j (l.getD i 0)).getD p 0 = l.getD (swapI i j p) 0 := by
  unfold swapI
  rw [getD_set', getD_set']
  by_cases h1 : p = j
  · rw [if_pos ⟨h1, by simp; omega⟩, if_pos h1]
  · rw [if_neg (fun z => h1 z.1), if_neg h1]
    by_cases h2 : p = i
    · rw [if_pos ⟨h2, by omega⟩, if_pos h2]
    · rw [if_neg (fun z => h2 z.1), if_neg h2]
theorem Ord.swap {n : Nat} {l : List Int} (h : Ord n l) {i j : Nat} (hi : i < n) (hj : j < n) : Ord n ((l.set i (l.getD j 0)).set j (l.getD i 0)) := by
  have hs : ∀ p, p < n → swapI i j p < n := fun p hp => by
    unfold swapI
    split
    · exact hi
    · split
      · exact hj
      · exact hp
  refine ⟨by simp [h.len], fun p hp => by rw [swap_getD h.len hi hj]; exact h.rg _ (hs p hp), fun p q hp hq e => ?_⟩
  rw [swap_getD h.len hi hj, swap_getD h.len hi hj] at e
  have := h.inj _ _ (hs p hp) (hs q hq) e
  unfold swapI at this
  repeat' split at this
  all_goals omega
theorem less_any {n : Nat} {l left : List Int} (h : Ord n l) (hl : left.length = n) {i j : Nat} (hi : i < n) (hj : j < n) : ∃ r, gale_Make_c1_F (l.getD i 0) (l.getD j 0) left = some r := by
  have a := h.rg i hi
  have b := h.rg j hj
  obtain ⟨x, ex⟩ := cmp_any (left.getD (l.getD j 0).toNat 0) (left.getD (l.getD i 0).toNat 0)
  obtain ⟨y, ey⟩ := cmp_any (l.getD i 0) (l.getD j 0)
  obtain ⟨z, ez⟩ := or_any x y
  unfold gale_Make_c1_F
  rw [ck_some (by omega), ck_some (by omega), ex, bind_some', ey, bind_some', ez, bind_some']
  exact ⟨_, rfl⟩
theorem ins_loop {n : Nat} (hn : n ≤ 12) {l left : List Int} (h : Ord n l) (hl : left.length = n) {x : Int} (h0 : 0 ≤ x) (h1 : x < n) :
    ∃ l' x', loopC (slices_insertionSortCmpFunc_int_gale_Make_c1_B2 0 left) 1000000 (l, x) = some (.go (l', x')) ∧ Ord n l' := by
  obtain ⟨q, e, ⟨l', x'⟩, rfl, hq⟩ := loopC_or (f := slices_insertionSortCmpFunc_int_gale_Make_c1_B2 0 left) (fun σ => Ord n σ.1 ∧ 0 ≤ σ.2 ∧ σ.2 < n) (fun q => ∃ σ, q = .go σ ∧ Ord n σ.1) (fun σ => σ.2.toNat) (fun σ ⟨i1, i2, i3⟩ => by
    obtain ⟨l, x⟩ := σ
    dsimp only at i1 i2 i3
    have hlen := i1.len
    unfold slices_insertionSortCmpFunc_int_gale_Make_c1_B2
    dsimp only
    by_cases c : 0 < x
    · obtain ⟨r, er⟩ := less_any i1 hl (i := x.toNat) (j := (x - 1).toNat) (by omega) (by omega)
      rw [if_pos c, ck_some (by omega), ck_some (inI_small (by omega) (by omega)), ck_some (by omega), er, bind_some']
      by_cases c2 : r < 0
      · rw [if_pos c2]
        exact .inl ⟨_, rfl, ⟨i1.swap (by omega) (by omega), by show 0 ≤ x - 1; omega, by show x - 1 < _; omega⟩, by show (x - 1).toNat < x.toNat; omega⟩
      · rw [if_neg c2]
        exact .inr (.inl ⟨_, rfl, _, rfl, i1⟩)
    · rw [if_neg c]
      exact .inr (.inl ⟨_, rfl, _, rfl, i1⟩)) (n := 1000000) (s := (l, x)) ⟨h, h0, h1⟩ (by show x.toNat < _; omega)
  exact ⟨l', x', e, hq⟩
theorem ins_ok {n : Nat} (hn : n ≤ 12) {l left : List Int} (h : Ord n l) (hl : left.length = n) : ∃ l', slices_insertionSortCmpFunc_int_gale_Make_c1_F l 0 (n : Int) left = some l' ∧ Ord n l' := by
  obtain ⟨q, e, ⟨l', x'⟩, rfl, hq⟩ := loopC_or (f := slices_insertionSortCmpFunc_int_gale_Make_c1_B1 0 (n : Int) left) (fun σ => Ord n σ.1 ∧ 1 ≤ σ.2) (fun q => ∃ σ, q = .go σ ∧ Ord n σ.1) (fun σ => ((n : Int) - σ.2).toNat) (fun σ ⟨i1, i2⟩ => by
    obtain ⟨l, x⟩ := σ
    dsimp only at i1 i2
    unfold slices_insertionSortCmpFunc_int_gale_Make_c1_B1
    dsimp only
    by_cases c : x < (n : Int)
    · obtain ⟨l', x', e, ho⟩ := ins_loop hn i1 hl (x := x) (by omega) c
      rw [if_pos c, e, bind_some']
      dsimp only
      rw [ck_some (inI_small (by omega) (by omega))]
      exact .inl ⟨_, rfl, ⟨ho, by show 1 ≤ x + 1; omega⟩, by show ((n : Int) - (x + 1)).toNat < ((n : Int) - x).toNat; omega⟩
    · rw [if_neg c]
      exact .inr (.inl ⟨_, rfl, _, rfl, i1⟩)) (n := 1000000) (s := (l, 0 + 1)) ⟨h, by show (1 : Int) ≤ 0 + 1; omega⟩ (by show ((n : Int) - (0 + 1)).toNat < _; omega)
  unfold slices_insertionSortCmpFunc_int_gale_Make_c1_F
  rw [ck_some (inI_small (by omega) (by omega)), e, bind_some']
  exact ⟨l', rfl, hq⟩
theorem len_table : ∀ m : Fin 13, (bits_Len_F (IntKind.u64.wrap ((m.val : Nat) : Int))).isSome = true := by decide +kernel
theorem sort_ok {n : Nat} (hn : n ≤ 12) {l left : List Int} (h : Ord n l) (hl : left.length = n) : ∃ l', slices_SortFunc_int_gale_Make_c1_F l left = some l' ∧ Ord n l' := by
  obtain ⟨l', e, ho⟩ := ins_ok hn h hl
  have hlen := h.len
  have hlen' := ho.len
  obtain ⟨r, er⟩ := Option.isSome_iff_exists.1 (len_table ⟨n, by omega⟩)
  have er' : bits_Len_F (IntKind.u64.wrap ((n : Nat) : Int)) = some r := er
  obtain ⟨q, e2, rfl⟩ := loopC_or (f := slices_pdqsortCmpFunc_int_gale_Make_c1_B1 l 0 (n : Int) r left) (fun _ => True) (fun q => q = .ret l') (fun _ => 0) (fun σ _ => by
    unfold slices_pdqsortCmpFunc_int_gale_Make_c1_B1
    rw [ck_some (inI_small (by omega) (by omega)), if_pos (by omega), e, bind_some', ck_some (by omega)]
    exact .inr (.inr ⟨_, rfl, rfl⟩)) (n := 1000000) (s := ()) trivial (by omega)
  have e3 : slices_pdqsortCmpFunc_int_gale_Make_c1_F 100 l 0 (n : Int) r left = some l' := by
    show slices_pdqsortCmpFunc_int_gale_Make_c1_S (slices_pdqsortCmpFunc_int_gale_Make_c1_F 99) l 0 (n : Int) r left = some l'
    unfold slices_pdqsortCmpFunc_int_gale_Make_c1_S
    rw [e2, bind_some']
  unfold slices_SortFunc_int_gale_Make_c1_F
  rw [hlen, er', bind_some', e3, bind_some', ck_some (by omega)]
  exact ⟨l', rfl, ho⟩
structure OkG (rows cols : List Int) : Prop where
  r : rows.length ≤ 12
  c : cols.length ≤ 12
  rs : ∀ i, i < rows.length → 0 ≤ rows.getD i 0 ∧ rows.getD i 0 ≤ cols.length
  cs : ∀ k, k < cols.length → 0 ≤ cols.getD k 0 ∧ cols.getD k 0 ≤ rows.length
theorem check_galeL (rows cols : List Int) : (OkG rows cols ∧ gale_Check_F rows cols = some 0) ∨ ∃ e, e ≠ 0 ∧ gale_Check_F rows cols = some e := by
  unfold gale_Check_F
  by_cases c1 : (12 : Int) < ((rows.length : Nat) : Int)
  · exact .inr ⟨2, by decide, by rw [if_pos c1]⟩
  by_cases c2 : (12 : Int) < ((cols.length : Nat) : Int)
  · exact .inr ⟨2, by decide, by rw [if_neg c1, if_pos c2]⟩
  rw [if_neg c1, if_neg c2]
  obtain ⟨q, e, hq⟩ := forC_or (f := gale_Check_B1 rows cols) (fun j _ => ∀ i, i < j → 0 ≤ rows.getD i 0 ∧ rows.getD i 0 ≤ cols.length) (fun q => q = .ret 1 ∨ q = .go () ∧ ∀ i, i < rows.length → 0 ≤ rows.getD i 0 ∧ rows.getD i 0 ≤ cols.length) (n := rows.length) (k := 0) (s := ()) (fun i hi => absurd hi (by omega)) (fun j s _ hj hI => by
    unfold gale_Check_B1
    by_cases d1 : rows.getD j 0 < 0
    · rw [if_pos d1]; exact .inr (.inr ⟨_, rfl, .inl rfl⟩)
    · rw [if_neg d1]
      by_cases d2 : ((cols.length : Nat) : Int) < rows.getD j 0
      · rw [if_pos d2]; exact .inr (.inr ⟨_, rfl, .inl rfl⟩)
      · rw [if_neg d2]
        refine .inl ⟨(), rfl, fun i hi => ?_⟩
        by_cases z : i = j
        · subst z; omega
        · exact hI i (by omega)) (fun s hI => .inr ⟨rfl, by rw [Nat.zero_add] at hI; exact hI⟩)
  rcases hq with rfl | ⟨rfl, hr⟩
  · exact .inr ⟨1, by decide, by rw [e, bind_some']⟩
  obtain ⟨q, e2, hq⟩ := forC_or (f := gale_Check_B2 rows cols) (fun j _ => ∀ i, i < j → 0 ≤ cols.getD i 0 ∧ cols.getD i 0 ≤ rows.length) (fun q => q = .ret 1 ∨ q = .go () ∧ ∀ i, i < cols.length → 0 ≤ cols.getD i 0 ∧ cols.getD i 0 ≤ rows.length) (n := cols.length) (k := 0) (s := ()) (fun i hi => absurd hi (by omega)) (fun j s _ hj hI => by
    unfold gale_Check_B2
    by_cases d1 : cols.getD j 0 < 0
    · rw [if_pos d1]; exact .inr (.inr ⟨_, rfl, .inl rfl⟩)
    · rw [if_neg d1]
      by_cases d2 : ((rows.length : Nat) : Int) < cols.getD j 0
      · rw [if_pos d2]; exact .inr (.inr ⟨_, rfl, .inl rfl⟩)
      · rw [if_neg d2]
        refine .inl ⟨(), rfl, fun i hi => ?_⟩
        by_cases z : i = j
        · subst z; omega
        · exact hI i (by omega)) (fun s hI => .inr ⟨rfl, by rw [Nat.zero_add] at hI; exact hI⟩)
  rcases hq with rfl | ⟨rfl, hc⟩
  · exact .inr ⟨1, by decide, by rw [e, bind_some']; dsimp only; rw [e2, bind_some']⟩
  · exact .inl ⟨⟨by omega, by omega, hr, hc⟩, by rw [e, bind_some']; dsimp only; rw [e2, bind_some']⟩
theorem order_ok {n : Nat} (hn : n ≤ 12) : ∃ l, forN gale_Make_B2 n 0 [] = some l ∧ Ord n l := by
  obtain ⟨l, e, h1, h2⟩ := forN_inv (f := gale_Make_B2) (fun j (l : List Int) => l.length = j ∧ ∀ p, p < j → l.getD p 0 = p) (n := n) (k := 0) (s := []) ⟨rfl, fun p hp => absurd hp (by omega)⟩ fun j l _ hj ⟨i1, i2⟩ => by
    unfold gale_Make_B2
    rw [ck_some (by omega)]
    refine ⟨_, rfl, by simp [i1], fun p hp => ?_⟩
    by_cases z : p = j
    · subst z
      rw [List.getD_eq_getElem?_getD, List.getElem?_append_right (by omega), i1]
      simp
    · rw [List.getD_eq_getElem?_getD, List.getElem?_append_left (by omega), ← List.getD_eq_getElem?_getD]
      exact i2 p (by omega)
  rw [Nat.zero_add] at h1 h2
  exact ⟨l, e, h1, fun p hp => by rw [h2 p hp]; omega, fun p q hp hq z => by rw [h2 p hp, h2 q hq] at z; omega⟩
structure RowS (n : Nat) (o l9 : List Int) (j : Nat) (σ : List Int × Int) : Prop where
  len : σ.1.length = n
  sum : ∀ k, k < n → σ.1.getD k 0 + bit σ.2 (k : Int) = l9.getD k 0
  pos : ∀ k, k < n → 0 ≤ σ.1.getD k 0
  new : ∀ p, j ≤ p → p < n → bit σ.2 (o.getD p 0) = 0
  ones : onesG σ.2 = j
  hi : Int.fdiv σ.2 (2 ^ n) = 0
theorem bit_zero (x : Int) : bit 0 x = 0 := by
  unfold bit
  rw [and1, Int.zero_fdiv]; rfl
theorem row_step {n : Nat} (hn : n ≤ 12) {o l9 rows : List Int} (ho : Ord n o) {i : Nat} (hr : 0 ≤ rows.getD i 0 ∧ rows.getD i 0 ≤ n) (h9 : ∀ k, k < n → l9.getD k 0 ≤ 12) {j : Nat} (hj : j < (rows.getD i 0).toNat) {σ : List Int × Int} (h : RowS n o l9 j σ) :
    (∃ σ', gale_Make_B3 rows i o j σ = some (.go σ') ∧ RowS n o l9 (j + 1) σ') ∨ gale_Make_B3 rows i o j σ = some (.ret (.ret ([], 5))) := by
  obtain ⟨l, x⟩ := σ
  have hlen : l.length = n := h.len
  have hsub : (subl o 0 (rows.getD i 0).toNat).getD j (0 : Int) = o.getD j 0 := by
    have := subl_getD (xs := o) (r := 0) (len := (rows.getD i 0).toNat) (e := j) hj
    rw [Nat.add_zero] at this
    exact this
  have hrg := ho.rg j (by omega)
  obtain ⟨κ, hκ⟩ : ∃ κ : Nat, o.getD j 0 = (κ : Int) := ⟨(o.getD j 0).toNat, by omega⟩
  have hκn : κ < n := by omega
  have hp := h.pos κ hκn
  have hs := h.sum κ hκn
  have h9k := h9 κ hκn
  have hb0 : bit x (κ : Int) = 0 := by have := h.new j (Nat.le_refl _) (by omega); rw [hκ] at this; exact this
  dsimp only at hp hs
  unfold gale_Make_B3
  dsimp only
  rw [hsub, hκ, ck_some (by omega), Int.toNat_natCast]
  by_cases c : l.getD κ 0 = 0
  · rw [if_pos c]
    exact .inr rfl
  · left
    rw [if_neg c, ck_some (inI_small (by omega) (by omega)), ck_some (by omega)]
    have hsh : IntKind.u16.wrap (1 * 2 ^ min κ 16) = shl (κ : Int) := by unfold shl; rw [Int.toNat_natCast]
    rw [hsh]
    have hbit : ∀ y : Nat, y < 16 → bit (bitsOf .or .u16 x (shl (κ : Int))) (y : Int) = if y = κ then 1 else bit x (y : Int) := fun y hy => by
      have h1 := bit_or x (shl (κ : Int)) (x := (y : Int)) (by omega) (by omega)
      have h2 := bit_shl (x := (y : Int)) (y := (κ : Int)) ⟨by omega, by omega⟩ ⟨by omega, by omega⟩
      rw [h2] at h1
      have b1 := bit01 (bitsOf .or .u16 x (shl (κ : Int))) (y : Int)
      have b2 := bit01 x (y : Int)
      by_cases z : y = κ
      · rw [if_pos z]
        exact h1.2 (.inr (by omega))
      · rw [if_neg z]
        rcases b2 with b2 | b2
        · rcases b1 with b1 | b1
          · omega
          · rcases h1.1 b1 with q | q <;> omega
        · rw [b2]; exact h1.2 (.inl b2)
    refine ⟨_, rfl, by simp [hlen], fun k hk => ?_, fun k hk => ?_, fun p hp1 hp2 => ?_, ?_, ?_⟩
    · have := h.sum k hk
      dsimp only at this ⊢
      rw [getD_set', hbit k (by omega)]
      by_cases z : k = κ
      · subst z
        rw [if_pos ⟨rfl, by omega⟩, if_pos rfl]; omega
      · rw [if_neg (fun q => z q.1), if_neg z]; exact this
    · have := h.pos k hk
      dsimp only at this ⊢
      rw [getD_set']
      by_cases z : k = κ
      · subst z
        rw [if_pos ⟨rfl, by omega⟩]; omega
      · rw [if_neg (fun q => z q.1)]; exact this
    · have hrp := ho.rg p hp2
      have hnew := h.new p (by omega) hp2
      obtain ⟨y, hy⟩ : ∃ y : Nat, o.getD p 0 = (y : Int) := ⟨(o.getD p 0).toNat, by omega⟩
      dsimp only at hnew ⊢
      rw [hy] at hnew ⊢
      rw [hbit y (by omega), if_neg]
      · exact hnew
      · intro z
        have := ho.inj p j hp2 (by omega) (by rw [hy, hκ, z])
        omega
    · have ht := h.ones
      unfold onesG at ht ⊢
      dsimp only at ht ⊢
      have e := tot_sub (fun k => bit (bitsOf .or .u16 x (shl (κ : Int))) (k : Int)) (fun k => bit x (k : Int)) 16
      rw [tot_single (k := κ) (by omega) (fun y hy hne => by rw [hbit y hy, if_neg hne, Int.sub_self]), hbit κ (by omega), if_pos rfl, hb0] at e
      omega
    · exact hi_or (by omega) h.hi (shl_hi (by omega) (by omega) (by omega))
structure MakeS (rows cols : List Int) (j : Nat) (σ : List Int × List U16) : Prop where
  len : σ.1.length = cols.length
  pos : ∀ k, k < cols.length → 0 ≤ σ.1.getD k 0
  cnt : σ.2.length = j
  row : ∀ i, i < j → onesG (σ.2.getD i El.d).v = rows.getD i 0 ∧ Int.fdiv (σ.2.getD i El.d).v (2 ^ cols.length) = 0
  col : ∀ k, k < cols.length → σ.1.getD k 0 + tot (fun i => bit (σ.2.getD i El.d).v (k : Int)) j = cols.getD k 0
theorem make_step {rows cols : List Int} (hg : OkG rows cols) {j : Nat} (hj : j < rows.length) {σ : List Int × List U16} (h : MakeS rows cols j σ) :
    (∃ σ', gale_Make_B1 rows cols j σ = some (.go σ') ∧ MakeS rows cols (j + 1) σ') ∨ gale_Make_B1 rows cols j σ = some (.ret ([], 5)) := by
  obtain ⟨l9, l11⟩ := σ
  have hlen : l9.length = cols.length := h.len
  have hcnt : l11.length = j := h.cnt
  have hc := hg.c; have hr12 := hg.r
  have hr := hg.rs j hj
  obtain ⟨o0, e0, ho0⟩ := order_ok hg.c
  obtain ⟨o, e1, ho⟩ := sort_ok hg.c ho0 hlen
  have ol := ho.len; have ol0 := ho0.len
  have t0 : ∀ k, k < cols.length → 0 ≤ tot (fun i => bit (l11.getD i El.d).v (k : Int)) j := fun k _ => tot_nonneg fun i _ => by have := bit01 (l11.getD i El.d).v (k : Int); omega
  have h9 : ∀ k, k < cols.length → l9.getD k 0 ≤ 12 := fun k hk => by
    have a := h.col k hk
    have b := (hg.cs k hk).2
    have c := t0 k hk
    dsimp only at a
    omega
  obtain ⟨q, e2, hq⟩ := forC_or (f := gale_Make_B3 rows j o) (fun i σ => RowS cols.length o l9 i σ) (fun q => q = .ret (.ret ([], 5)) ∨ ∃ σ, q = .go σ ∧ RowS cols.length o l9 (rows.getD j 0).toNat σ) (n := (rows.getD j 0).toNat) (k := 0) (s := (l9, 0)) ⟨hlen, fun k hk => by dsimp only; rw [bit_zero, Int.add_zero], fun k hk => h.pos k hk, fun p _ _ => bit_zero _, by unfold onesG; exact tot_zero fun k _ => bit_zero _, by dsimp only; exact Int.zero_fdiv _⟩ (fun i σ _ hi hI => by
    rcases row_step hg.c ho hr h9 (show i < (rows.getD j 0).toNat by omega) hI with ⟨σ', p1, p2⟩ | p
    · exact .inl ⟨σ', p1, p2⟩
    · exact .inr (.inr ⟨_, p, .inl rfl⟩)) (fun σ hI => .inr ⟨σ, rfl, by rw [Nat.zero_add] at hI; exact hI⟩)
  unfold gale_Make_B1
  dsimp only
  rw [e0, bind_some', e1, bind_some', ck_some (by omega), ck_some (by omega), ck_some (by omega), e2, bind_some']
  rcases hq with rfl | ⟨⟨l, x⟩, rfl, hS⟩
  · exact .inr rfl
  · left
    dsimp only
    rw [ck_some (by omega)]
    have g1 : ∀ i, i < j → (l11 ++ [(⟨x⟩ : U16)]).getD i El.d = l11.getD i El.d := fun i hi => by
      rw [List.getD_eq_getElem?_getD, List.getElem?_append_left (by omega), ← List.getD_eq_getElem?_getD]
    have g2 : (l11 ++ [(⟨x⟩ : U16)]).getD j El.d = ⟨x⟩ := by
      rw [List.getD_eq_getElem?_getD, List.getElem?_append_right (by omega), hcnt]; simp
    refine ⟨_, rfl, hS.len, hS.pos, by simp [hcnt], fun i hi => ?_, fun k hk => ?_⟩
    · dsimp only
      by_cases z : i = j
      · subst z
        rw [g2]
        exact ⟨by have := hS.ones; dsimp only at this ⊢; omega, hS.hi⟩
      · rw [g1 i (by omega)]
        exact h.row i (by omega)
    · dsimp only
      have a := h.col k hk
      have b := hS.sum k hk
      dsimp only at a b
      rw [tot, g2, tot_congr (g := fun i => bit (l11.getD i El.d).v (k : Int)) fun i hi => by rw [g1 i hi]]
      dsimp only
      omega
theorem rest_any {l : List Int} : ∃ b, slices_ContainsFunc_int_gale_Make_c2_F l = some b ∧ (b = false → ∀ k, k < l.length → l.getD k 0 ≤ 0) := by
  obtain ⟨q, e, hq⟩ := forC_or (f := slices_IndexFunc_int_gale_Make_c2_B1 l) (fun j _ => ∀ k, k < j → l.getD k 0 ≤ 0) (fun q => (∃ r, q = .ret r ∧ 0 ≤ r) ∨ q = .go () ∧ ∀ k, k < l.length → l.getD k 0 ≤ 0) (n := l.length) (k := 0) (s := ()) (fun k hk => absurd hk (by omega)) (fun j s _ hj hI => by
    unfold slices_IndexFunc_int_gale_Make_c2_B1 gale_Make_c2_F
    rw [bind_some']
    by_cases c : 0 < l.getD j 0
    · rw [if_pos (decide_eq_true c)]
      exact .inr (.inr ⟨_, rfl, .inl ⟨_, rfl, by omega⟩⟩)
    · rw [if_neg (by rw [decide_eq_false c]; decide)]
      refine .inl ⟨(), rfl, fun k hk => ?_⟩
      by_cases z : k = j
      · subst z; omega
      · exact hI k (by omega)) (fun s hI => .inr ⟨rfl, by rw [Nat.zero_add] at hI; exact hI⟩)
  unfold slices_ContainsFunc_int_gale_Make_c2_F slices_IndexFunc_int_gale_Make_c2_F
  rw [e, bind_some']
  rcases hq with ⟨r, rfl, hr⟩ | ⟨rfl, h⟩
  · dsimp only
    rw [bind_some']
    exact ⟨_, rfl, fun hb => by
      have : decide (0 ≤ r) = true := decide_eq_true hr
      rw [this] at hb; cases hb⟩
  · dsimp only
    rw [bind_some']
    exact ⟨_, rfl, fun _ => h⟩
theorem make_gale (rows cols : List Int) : (∃ e, e ≠ 0 ∧ gale_Make_F rows cols = some ([], e)) ∨ (OkG rows cols ∧ ∃ out, gale_Make_F rows cols = some (out, 0) ∧ out.length = rows.length ∧
    (∀ i, i < rows.length → onesG (out.getD i El.d).v = rows.getD i 0 ∧ Int.fdiv (out.getD i El.d).v (2 ^ cols.length) = 0) ∧ ∀ k, k < cols.length → tot (fun i => bit (out.getD i El.d).v (k : Int)) rows.length = cols.getD k 0) := by
  unfold gale_Make_F
  rcases check_galeL rows cols with ⟨hg, e⟩ | ⟨e1, he, e⟩
  · have hc := hg.c
    have ecl : slices_Clone_int_F cols = some cols := by
      unfold slices_Clone_int_F
      rw [ck_some (by omega)]; rfl
    obtain ⟨q, e2, hq⟩ := forC_or (f := gale_Make_B1 rows cols) (fun i σ => MakeS rows cols i σ) (fun q => q = .ret ([], 5) ∨ ∃ σ, q = .go σ ∧ MakeS rows cols rows.length σ) (n := rows.length) (k := 0) (s := (cols, [])) ⟨rfl, fun k hk => (hg.cs k hk).1, rfl, fun i hi => absurd hi (by omega), fun k hk => by dsimp only; rw [tot, Int.add_zero]⟩ (fun i σ _ hi hI => by
      rcases make_step hg (show i < rows.length by omega) hI with ⟨σ', p1, p2⟩ | p
      · exact .inl ⟨σ', p1, p2⟩
      · exact .inr (.inr ⟨_, p, .inl rfl⟩)) (fun σ hI => .inr ⟨σ, rfl, by rw [Nat.zero_add] at hI; exact hI⟩)
    rw [e, bind_some', if_neg (by decide), ecl, bind_some', e2, bind_some']
    rcases hq with rfl | ⟨⟨l, out⟩, rfl, hS⟩
    · exact .inl ⟨5, by decide, rfl⟩
    · dsimp only
      obtain ⟨b, eb, hb⟩ := rest_any (l := l)
      rw [eb, bind_some']
      cases b with
      | true => exact .inl ⟨5, by decide, by rw [if_pos rfl]⟩
      | false =>
        refine .inr ⟨hg, out, by rw [if_neg (by decide)], hS.cnt, hS.row, fun k hk => ?_⟩
        have hl : l.length = cols.length := hS.len
        have a := hb rfl k (by omega)
        have b := hS.pos k hk
        have c := hS.col k hk
        dsimp only at b c
        omega
  · exact .inl ⟨e1, he, by rw [e, bind_some', if_pos he]⟩
end Go.Proofs.Ytlpelkfcmeapiaa
