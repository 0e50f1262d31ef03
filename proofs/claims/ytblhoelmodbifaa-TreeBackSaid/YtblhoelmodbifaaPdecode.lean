/- Package tree: Decode makes the arcs of a tree, leaf by leaf. -/
import Derived.Test.YtblhoelmodbifaaPkeep
import Derived.Test.YtblhoelmodbifaaPlB
import Derived.Test.YtblhoelmodbifaaGtree
namespace Go.Proofs.Ytblhoelmodbifaa
open Go Go.Proofs.Ytblhoelmodbifaa.Sx
set_option linter.unusedVariables false
set_option linter.unusedSimpArgs false
/-! ### Index -/
theorem index_eq (l : List Int) (v : Int) : ∃ r, slices_Index_int_F l v = some r ∧ ((r = -1 ∧ v ∉ l) ∨ (0 ≤ r ∧ r < l.length ∧ l.getD r.toNat 0 = v ∧ ∀ i : Nat, (i : Int) < r → l.getD i 0 ≠ v)) := by
  unfold slices_Index_int_F
  obtain ⟨q, h1, h2⟩ := forC_or (f := slices_Index_int_B1 l v) (fun k _ => ∀ i, i < k → l.getD i 0 ≠ v) (fun q => (∀ r, q = .ret r → 0 ≤ r ∧ r < l.length ∧ l.getD r.toNat 0 = v ∧ ∀ i : Nat, (i : Int) < r → l.getD i 0 ≠ v) ∧ (q = .go () → v ∉ l)) (n := l.length) (k := 0) (s := ()) (fun i h => absurd h (by omega)) (fun j s _ hj hI => by
    unfold slices_Index_int_B1
    by_cases he : v = l.getD j 0
    · right; right
      refine ⟨(j : Int), by rw [if_pos he], fun r e => ?_, fun e => by cases e⟩
      injection e with e; subst e
      exact ⟨by omega, by omega, by rw [Int.toNat_natCast]; exact he.symm, fun i hi => hI i (by omega)⟩
    · left
      refine ⟨(), by rw [if_neg he], fun i hi => ?_⟩
      by_cases h : i = j
      · subst h; exact fun e => he e.symm
      · exact hI i (by omega)) (fun s h => ⟨fun r e => (by cases e), fun _ hm => by
    obtain ⟨k, hk, e⟩ := getD_of_mem (d := 0) hm
    exact h k (by omega) e⟩)
  rw [h1, bind_some']
  cases q with
  | go s => exact ⟨-1, rfl, .inl ⟨rfl, h2.2 rfl⟩⟩
  | ret r => exact ⟨r, rfl, .inr (h2.1 r rfl)⟩
theorem index_mem {l : List Int} {v : Int} (h : v ∈ l) : ∃ r : Nat, slices_Index_int_F l v = some (r : Int) ∧ r < l.length ∧ l.getD r 0 = v ∧ ∀ i : Nat, i < r → l.getD i 0 ≠ v := by
  obtain ⟨r, e, h1 | h1⟩ := index_eq l v
  · exact absurd h h1.2
  · obtain ⟨h1, h2, h3, h4⟩ := h1
    exact ⟨r.toNat, by rw [e]; congr 1; omega, by omega, h3, fun i hi => h4 i (by omega)⟩
/-! ### how often a number stands in a list -/
def occ (l : List Int) (x : Int) : Int := ((l.countP fun y => y == x : Nat) : Int)
theorem occ_nil (x : Int) : occ [] x = 0 := rfl
theorem occ_cons (a : Int) (l : List Int) (x : Int) : occ (a :: l) x = (if a = x then 1 else 0) + occ l x := by
  unfold occ; rw [List.countP_cons]; by_cases h : a = x <;> simp [h] <;> omega
theorem occ_snoc (l : List Int) (a x : Int) : occ (l ++ [a]) x = occ l x + if a = x then 1 else 0 := by
  unfold occ; rw [List.countP_append]; by_cases h : a = x <;> simp [h]
theorem occ_le (l : List Int) (x : Int) : 0 ≤ occ l x ∧ occ l x ≤ l.length := by
  unfold occ; exact ⟨by omega, by have := List.countP_le_length (p := fun y : Int => y == x) (l := l); omega⟩
theorem occ_append (l m : List Int) (x : Int) : occ (l ++ m) x = occ l x + occ m x := by
  unfold occ; rw [List.countP_append]; omega
theorem tot_occ {n : Nat} : ∀ {l : List Int}, (∀ x, x ∈ l → 0 ≤ x ∧ x < n) → tot (fun i => occ l i) n = l.length
  | [], _ => tot_zero fun _ _ => rfl
  | a :: l, h => by
    have ha := h a (by simp)
    have := tot_one (a := a) (n := n) ha.1 ha.2
    rw [Int.toNat_natCast] at this
    rw [tot_congr fun i _ => occ_cons a l i, tot_add, this, tot_occ fun b hb => h b (by simp [hb])]
    simp; omega
theorem tot_neg_one {f : Nat → Int} : ∀ {n : Nat}, tot f n < 0 → ∃ x, x < n ∧ f x < 0
  | 0, h => absurd h (by simp [tot])
  | n + 1, h => by
    rw [tot] at h
    by_cases h1 : f n < 0
    · exact ⟨n, by omega, h1⟩
    · obtain ⟨x, h2, h3⟩ := tot_neg_one (f := f) (n := n) (by omega)
      exact ⟨x, by omega, h3⟩
/-- The state of Decode: G is who is gone (one by one), r the code that is left; who is not gone has es many es are still to come. -/
structure Dec (n : Nat) (G : List Int) (r : List Int) (left : List Int) : Prop where
  len : left.length = n
  nodup : G.Nodup
  gone : ∀ x, x ∈ G → (0 ≤ x ∧ x < n) ∧ left.getD x.toNat 0 = -1 ∧ x ∉ r
  here : ∀ x : Nat, x < n → (x : Int) ∉ G → left.getD x 0 = occ r x
  code : ∀ x, x ∈ r → 0 ≤ x ∧ x < n
  size : G.length + r.length + 2 = n
theorem tot_gone {n : Nat} : ∀ {G : List Int}, G.Nodup → (∀ x, x ∈ G → 0 ≤ x ∧ x < n) → tot (fun i => if (i : Int) ∈ G then 1 else 0) n = G.length
  | [], _, _ => tot_zero fun _ _ => by simp
  | a :: G, hn, h => by
    have ha := h a (by simp)
    have hnd := List.nodup_cons.1 hn
    have := tot_one (a := a) (n := n) ha.1 ha.2
    rw [Int.toNat_natCast] at this
    have e : tot (fun i => if (i : Int) ∈ a :: G then 1 else 0) n = tot (fun i => (if a = (i : Int) then 1 else 0) + if (i : Int) ∈ G then 1 else 0) n := tot_congr fun i _ => by
      by_cases h1 : a = (i : Int)
      · subst h1; simp [hnd.1]
      · have : (i : Int) ≠ a := fun e => h1 e.symm
        simp [h1, this]
    rw [e, tot_add, this, tot_gone hnd.2 fun x hx => h x (by simp [hx])]
    simp; omega
/-- someone is a leaf -/
theorem Dec.leaf {n : Nat} {G r left : List Int} (h : Dec n G r left) : (0 : Int) ∈ left := by
  refine Classical.byContradiction fun hn => ?_
  have pos : ∀ x : Nat, x < n → (x : Int) ∉ G → 1 ≤ occ r x := fun x hx hg => by
    have e := h.here x hx hg
    have := (occ_le r x).1
    refine Classical.byContradiction fun hc => hn ?_
    have : left.getD x 0 = 0 := by omega
    rw [← this]; exact mem_getD (by rw [h.len]; exact hx)
  have h1 := tot_occ (n := n) h.code
  have h2 := tot_gone h.nodup fun x hx => (h.gone x hx).1
  have h3 : tot (fun i : Nat => (1 : Int)) n ≤ tot (fun i => occ r i + if (i : Int) ∈ G then 1 else 0) n := tot_le fun i hi => by
    by_cases hg : (i : Int) ∈ G
    · rw [if_pos hg]; have := (occ_le r i).1; omega
    · rw [if_neg hg]; have := pos i hi hg; omega
  rw [tot_add, h1, h2, tot_const] at h3
  have := h.size
  omega
/-- one more is gone -/
theorem Dec.step {n : Nat} {G r left : List Int} {k : Int} (h : Dec n G (k :: r) left) : ∃ leaf : Nat, slices_Index_int_F left 0 = some (leaf : Int) ∧ leaf < n ∧ (leaf : Int) ∉ G ∧ (leaf : Int) ∉ k :: r ∧ (leaf : Int) ≠ k ∧ k ∉ G ∧ Dec n (G ++ [(leaf : Int)]) r ((left.set leaf (-1)).set k.toNat ((left.set leaf (-1)).getD k.toNat 0 - 1)) ∧
    (left.set leaf (-1)).getD k.toNat 0 = occ (k :: r) k ∧ (∀ i : Nat, i < leaf → left.getD i 0 ≠ 0) := by
  obtain ⟨leaf, e, h1, h2, h3⟩ := index_mem h.leaf
  have hl := h.len
  have hk := h.code k (by simp)
  have hng : (leaf : Int) ∉ G := fun hg => by
    have := (h.gone _ hg).2.1
    rw [Int.toNat_natCast] at this
    omega
  have ho : occ (k :: r) leaf = 0 := by rw [← h.here leaf (by omega) hng, h2]
  have hnm : (leaf : Int) ∉ k :: r := fun hm => by
    have : 0 < (k :: r).countP fun y => y == (leaf : Int) := List.countP_pos_iff.2 ⟨_, hm, by simp⟩
    unfold occ at ho; omega
  have hne : (leaf : Int) ≠ k := fun e => hnm (by simp [e])
  have hkg : k ∉ G := fun hg => (h.gone k hg).2.2 (by simp)
  have hgk : (left.set leaf (-1)).getD k.toNat 0 = occ (k :: r) k := by
    rw [getD_set', if_neg (by omega)]
    have := h.here k.toNat (by omega) (by rw [show ((k.toNat : Nat) : Int) = k by omega]; exact hkg)
    rw [this, show ((k.toNat : Nat) : Int) = k by omega]
  refine ⟨leaf, e, by omega, hng, hnm, hne, hkg, ⟨by simp [hl], ?_, fun x hx => ?_, fun x hx hg => ?_, fun x hx => h.code x (by simp [hx]), ?_⟩, hgk, h3⟩
  · rw [List.nodup_append]
    refine ⟨h.nodup, by simp, fun a ha b hb e => ?_⟩
    obtain rfl := List.mem_singleton.1 hb
    subst e
    exact hng ha
  · rcases List.mem_append.1 hx with hx | hx
    · obtain ⟨g1, g2, g3⟩ := h.gone x hx
      have hxk : x ≠ k := fun e => g3 (by simp [e])
      have hxl : x ≠ leaf := fun e => hng (e ▸ hx)
      refine ⟨g1, ?_, fun hm => g3 (by simp [hm])⟩
      rw [getD_set', if_neg (by omega), getD_set', if_neg (by omega)]
      exact g2
    · obtain rfl := List.mem_singleton.1 hx
      refine ⟨by omega, ?_, fun hm => hnm (by simp [hm])⟩
      rw [getD_set', if_neg (by omega), getD_set', if_pos ⟨by omega, by omega⟩]
  · have hxG : (x : Int) ∉ G := fun h => hg (by simp [h])
    have hxl : (x : Int) ≠ leaf := fun h => hg (by simp [h])
    have hx2 := h.here x hx hxG
    rw [occ_cons] at hx2
    rw [getD_set']
    by_cases e : x = k.toNat
    · rw [if_pos ⟨e, by simp; omega⟩, hgk, occ_cons, if_pos rfl, e, show ((k.toNat : Nat) : Int) = k by omega]; omega
    · rw [if_neg (fun z => e z.1), getD_set', if_neg (by omega), hx2, if_neg (by omega)]; omega
  · have := h.size
    simp only [List.length_cons] at this
    simp; omega
/-- What Decode has still to do: who is gone, the code that is left, the arcs that are still to come; each joins the least leaf to the next of the code, and the last the two who are left. -/
inductive Peel (n : Nat) : List Int → List Int → List Arc → Prop
  | nil {G : List Int} {a b : Int} (ha : a ∉ G) (hb : b ∉ G) (hab : a < b) (h0 : 0 ≤ a) (h1 : b < n) (h2 : ∀ x : Int, 0 ≤ x → x < n → x ∉ G → x = a ∨ x = b) : Peel n G [] [⟨a, b, 0⟩]
  | step {G r : List Int} {es : List Arc} {leaf k : Int} (hl : leaf ∉ G) (hk : k ∉ G) (hne : leaf ≠ k) (h0 : 0 ≤ leaf ∧ leaf < n) (h1 : 0 ≤ k ∧ k < n) (hn : leaf ∉ k :: r) (hm : ∀ x : Int, 0 ≤ x → x < leaf → x ∉ G → x ∈ k :: r) (h : Peel n (G ++ [leaf]) r es) : Peel n G (k :: r) (⟨min leaf k, max leaf k, 0⟩ :: es)
theorem occ_none {l : List Int} {x : Int} (h : x ∉ l) : occ l x = 0 := by
  unfold occ
  rw [List.countP_eq_zero.2 fun y hy => by
    intro e
    have : y = x := by simpa using e
    exact h (this ▸ hy)]
  rfl
theorem occ_some {l : List Int} {x : Int} (h : x ∈ l) : 1 ≤ occ l x := by
  have : 0 < l.countP fun y => y == x := List.countP_pos_iff.2 ⟨_, h, by simp⟩
  unfold occ; omega
/-! ### Decode -/
/-- the arcs: each joins who is gone next to a number of the code -/
inductive Leaves (n : Nat) : List Int → List Int → List Arc → Prop
  | nil : Leaves n [] [] []
  | snoc {G r : List Int} {es : List Arc} {leaf k : Int} (h : Leaves n G r es) (hl : leaf ∉ G) (hk : k ∉ G) (hne : leaf ≠ k) (h0 : 0 ≤ leaf ∧ leaf < n) (h1 : 0 ≤ k ∧ k < n) : Leaves n (G ++ [leaf]) (r ++ [k]) (es ++ [⟨min leaf k, max leaf k, 0⟩])
structure Good' (l : List Int) : Prop where
  len : l.length ≤ 10
  r : ∀ x, x ∈ l → 0 ≤ x ∧ x < (l.length : Int) + 2
theorem decode_loop1 (l : List Int) (hl : l.length ≤ 10) : ∃ q, forC (tree_Decode_B1 l) l.length 0 (List.replicate (l.length + 2) (0 : Int)) = some q ∧
    (match q with | .go left => left.length = l.length + 2 ∧ Good' l ∧ ∀ x : Nat, x < l.length + 2 → left.getD x 0 = occ l x | .ret r => r = (⟨0, []⟩, 4) ∧ ¬ Good' l) := by
  refine forC_or (f := tree_Decode_B1 l) (fun j left => left.length = l.length + 2 ∧ (∀ i, i < j → 0 ≤ l.getD i 0 ∧ l.getD i 0 < (l.length : Int) + 2) ∧ ∀ x : Nat, x < l.length + 2 → left.getD x 0 = occ (l.take j) x)
    (fun q => match q with | .go left => left.length = l.length + 2 ∧ Good' l ∧ ∀ x : Nat, x < l.length + 2 → left.getD x 0 = occ l x | .ret r => r = (⟨0, []⟩, 4) ∧ ¬ Good' l)
    ⟨by simp, fun i hi => absurd hi (by omega), fun x hx => by rw [getD_replicate', if_pos hx]; rfl⟩ (fun j left _ hj ⟨i1, i2, i3⟩ => ?_) (fun left ⟨i1, i2, i3⟩ => ⟨i1, ⟨hl, fun x hx => by
      obtain ⟨k, hk, e⟩ := getD_of_mem (d := 0) hx
      rw [← e]; exact i2 k (by omega)⟩, fun x hx => by
      have := i3 x hx
      rwa [List.take_of_length_le (by omega)] at this⟩)
  have hj' : j < l.length := by omega
  unfold tree_Decode_B1
  by_cases h1 : l.getD j 0 < 0
  · rw [if_pos h1]
    exact .inr (.inr ⟨_, rfl, rfl, fun h => by have := h.r _ (mem_getD (d := 0) hj'); omega⟩)
  rw [if_neg h1]
  by_cases h2 : ((l.length + 2 : Nat) : Int) ≤ l.getD j 0
  · rw [if_pos h2]
    exact .inr (.inr ⟨_, rfl, rfl, fun h => by have := h.r _ (mem_getD (d := 0) hj'); omega⟩)
  rw [if_neg h2, ck_some (by omega)]
  have e := i3 (l.getD j 0).toNat (by omega)
  have hb := occ_le (l.take j) (((l.getD j 0).toNat : Nat) : Int)
  have hb2 : (l.take j).length ≤ 10 := by rw [List.length_take]; omega
  rw [ck_some (inI_small (by omega) (by omega))]
  left
  refine ⟨_, rfl, by simp [i1], fun i hi => ?_, fun x hx => ?_⟩
  · by_cases e : i = j
    · subst e; omega
    · exact i2 i (by omega)
  · have ht : l.take (j + 1) = l.take j ++ [l.getD j 0] := by
      rw [List.take_succ_eq_append_getElem hj']; simp [List.getD_eq_getElem?_getD, hj']
    rw [ht, occ_snoc, getD_set']
    by_cases q : x = (l.getD j 0).toNat
    · rw [if_pos ⟨q, by omega⟩, e, if_pos (by omega), q]
    · rw [if_neg (fun z => q z.1), if_neg (by omega), i3 x hx]; omega
theorem decode_loop2 {l : List Int} (hl : Good' l) {left : List Int} (h0 : Dec (l.length + 2) [] l left) : ∃ G es left', forN (tree_Decode_B2 l) l.length 0 (left, []) = some (left', es) ∧ Leaves (l.length + 2) G l es ∧ es.length = l.length ∧ Dec (l.length + 2) G [] left' ∧ ∀ es', Peel (l.length + 2) G [] es' → Peel (l.length + 2) [] l (es ++ es') := by
  obtain ⟨s, e, G, h1, h2, h3, h4⟩ := forN_inv (f := tree_Decode_B2 l) (fun j s => ∃ G, Leaves (l.length + 2) G (l.take j) s.2 ∧ s.2.length = j ∧ Dec (l.length + 2) G (l.drop j) s.1 ∧ ∀ es', Peel (l.length + 2) G (l.drop j) es' → Peel (l.length + 2) [] l (s.2 ++ es')) (n := l.length) (k := 0) (s := (left, [])) ⟨[], .nil, rfl, h0, fun es' h => h⟩ fun j s _ hj ⟨G, i1, i2, i3, i4⟩ => by
    obtain ⟨left, es⟩ := s
    dsimp only at i1 i2 i3 i4
    have hj' : j < l.length := by omega
    have hlen := hl.len
    rw [drop_getD 0 hj'] at i3 i4
    obtain ⟨leaf, e, q1, q2, q3, q4, q5, q6, q7, q8⟩ := i3.step
    have hk := i3.code (l.getD j 0) (by simp)
    have hll := i3.len
    have hb := occ_le (l.getD j 0 :: l.drop (j + 1)) (l.getD j 0)
    have hb2 : (l.getD j 0 :: l.drop (j + 1)).length ≤ 11 := by simp; omega
    unfold tree_Decode_B2
    dsimp only
    rw [e, bind_some', ck_some (by omega), ck_some (by omega)]
    rw [Int.toNat_natCast, q7, ck_some (inI_small (by omega) (by omega)), ck_some (by omega)]
    have ht : l.take (j + 1) = l.take j ++ [l.getD j 0] := by
      rw [List.take_succ_eq_append_getElem hj']; simp [List.getD_eq_getElem?_getD, hj']
    refine ⟨_, rfl, G ++ [(leaf : Int)], ?_, by simp [i2], ?_, fun es' hp => ?_⟩
    · rw [ht]; exact .snoc i1 q2 q5 q4 (by omega) (by omega)
    · dsimp only; rw [← q7]; exact q6
    · dsimp only
      rw [List.append_assoc]
      refine i4 _ (.step q2 q5 q4 (by omega) (by omega) q3 (fun x x0 x1 hx => Classical.byContradiction fun hno => ?_) hp)
      have h5 := i3.here x.toNat (by omega) (by rw [show ((x.toNat : Nat) : Int) = x by omega]; exact hx)
      rw [show ((x.toNat : Nat) : Int) = x by omega, occ_none hno] at h5
      exact q8 x.toNat (by omega) h5
  rw [Nat.zero_add, List.take_of_length_le (Nat.le_refl _)] at h1
  rw [Nat.zero_add] at h2 h3 h4
  rw [List.drop_of_length_le (Nat.le_refl _)] at h3 h4
  exact ⟨G, s.2, s.1, e, h1, h2, h3, h4⟩
theorem decode_cases (l : List Int) (hm : l.length ≤ 17592186044416) : (Good' l ∧ ∃ G es a b, tree_Decode_F l = some (⟨(l.length : Int) + 2, es ++ [⟨a, b, 0⟩]⟩, 0) ∧ Leaves (l.length + 2) G l es ∧ es.length = l.length ∧ G.Nodup ∧ a ∉ G ∧ b ∉ G ∧ a < b ∧ 0 ≤ a ∧ b < (l.length : Int) + 2 ∧ (∀ x, 0 ≤ x → x < (l.length : Int) + 2 → x ∉ G → x = a ∨ x = b) ∧ Peel (l.length + 2) [] l (es ++ [⟨a, b, 0⟩])) ∨ (¬ Good' l ∧ ∃ e, e ≠ 0 ∧ tree_Decode_F l = some (⟨0, []⟩, e)) := by
  unfold tree_Decode_F
  by_cases hl : l.length ≤ 10
  · rw [ck_some (inI_small (by omega) (by omega)), if_neg (by omega), ck_some (by omega), Int.toNat_natCast]
    obtain ⟨q, e, hq⟩ := decode_loop1 l hl
    rw [e, bind_some']
    match q, hq with
    | .ret r, hq =>
      obtain ⟨rfl, hq⟩ := hq
      exact .inr ⟨hq, 4, by decide, rfl⟩
    | .go left, hq =>
      obtain ⟨q1, q2, q3⟩ := hq
      left
      have h0 : Dec (l.length + 2) [] l left := ⟨q1, by simp, fun x hx => absurd hx (by simp), fun x hx _ => q3 x hx, fun x hx => q2.r x hx, by simp⟩
      obtain ⟨G, es, left', e2, h1, h2, h3, hpl⟩ := decode_loop2 q2 h0
      dsimp only
      rw [e2, bind_some']
      dsimp only
      have hn := h3.len
      have hsz := h3.size
      obtain ⟨a, ea, a1, a2, a3⟩ := index_mem h3.leaf
      rw [ea, bind_some', ck_some (by omega), Int.toNat_natCast]
      have haG : (a : Int) ∉ G := fun hg => by
        have := (h3.gone _ hg).2.1
        rw [Int.toNat_natCast] at this; omega
      have hval : ∀ x : Nat, x < l.length + 2 → (x : Int) ∉ G → left'.getD x 0 = 0 := fun x hx hg => by rw [h3.here x hx hg]; rfl
      -- there is one more
      have hG2 := tot_gone h3.nodup fun x hx => (h3.gone x hx).1
      have hb : ∃ b : Nat, b < l.length + 2 ∧ b ≠ a ∧ (b : Int) ∉ G := by
        refine Classical.byContradiction fun hc => ?_
        have hall : ∀ b : Nat, b < l.length + 2 → b ≠ a → (b : Int) ∈ G := fun b hb hne => Classical.byContradiction fun hg => hc ⟨b, hb, hne, hg⟩
        have h4 : tot (fun i : Nat => (1 : Int)) (l.length + 2) ≤ tot (fun i => (if i = a then 1 else 0) + if (i : Int) ∈ G then 1 else 0) (l.length + 2) := tot_le fun i hi => by
          by_cases q : i = a
          · rw [if_pos q]; split <;> omega
          · rw [if_neg q, if_pos (hall i hi q)]; omega
        rw [tot_add, hG2, tot_const, tot_single (k := a) (by omega) (fun i _ hi => if_neg hi), if_pos rfl] at h4
        simp only [List.length_nil] at hsz
        omega
      obtain ⟨b, b1, b2, b3⟩ := hb
      have hzero : (0 : Int) ∈ left'.set a (-1) := by
        have : (left'.set a (-1)).getD b 0 = 0 := by rw [getD_set', if_neg (fun z => b2 z.1)]; exact hval b b1 b3
        rw [← this]; exact mem_getD (by simp; omega)
      obtain ⟨c, ec, c1, c2, c3⟩ := index_mem hzero
      rw [ec, bind_some', ck_some (by have := hl; omega)]
      have hca : c ≠ a := fun e => by
        rw [e, getD_set', if_pos ⟨rfl, a1⟩] at c2; omega
      rw [List.length_set] at c1
      rw [getD_set', if_neg (fun z => hca z.1)] at c2
      have hcG : (c : Int) ∉ G := fun hg => by
        have := (h3.gone _ hg).2.1
        rw [Int.toNat_natCast] at this; omega
      have hac : a < c := Nat.lt_of_le_of_ne (Nat.le_of_not_lt fun h => a3 c h c2) (fun e => hca e.symm)
      have honly : ∀ x, 0 ≤ x → x < (l.length : Int) + 2 → x ∉ G → x = (a : Int) ∨ x = (c : Int) := fun x x0 x1 hx => by
        -- only two are left
        refine Classical.byContradiction fun hc => ?_
        have h4 : tot (fun i : Nat => (if i = a then (1 : Int) else 0) + (if i = c then 1 else 0) + (if i = x.toNat then 1 else 0) + if (i : Int) ∈ G then 1 else 0) (l.length + 2) ≤ tot (fun i : Nat => (1 : Int)) (l.length + 2) := tot_le fun i hi => by
          by_cases q1 : i = a
          · subst q1
            rw [if_pos rfl, if_neg (by omega), if_neg (by omega), if_neg haG]; omega
          · rw [if_neg q1]
            by_cases q2 : i = c
            · subst q2
              rw [if_pos rfl, if_neg (by omega), if_neg hcG]; omega
            · rw [if_neg q2]
              by_cases q3 : i = x.toNat
              · subst q3
                rw [if_pos rfl, if_neg (by rw [show ((x.toNat : Nat) : Int) = x by omega]; exact hx)]; omega
              · rw [if_neg q3]; split <;> omega
        rw [tot_add, tot_add, tot_add, hG2, tot_const, tot_single (k := a) (by omega) (fun i _ hi => if_neg hi), tot_single (k := c) (by omega) (fun i _ hi => if_neg hi), tot_single (k := x.toNat) (by omega) (fun i _ hi => if_neg hi), if_pos rfl, if_pos rfl, if_pos rfl] at h4
        simp only [List.length_nil] at hsz
        omega
      exact ⟨q2, G, es, a, c, rfl, h1, h2, h3.nodup, haG, hcG, by omega, by omega, by omega, honly, hpl _ (.nil haG hcG (by omega) (by omega) (by omega) fun x x0 x1 hx => honly x x0 (by omega) hx)⟩
  · rw [ck_some (by unfold InI; omega), if_pos (by omega)]
    exact .inr ⟨fun h => hl h.len, 2, by decide, rfl⟩
end Go.Proofs.Ytblhoelmodbifaa
