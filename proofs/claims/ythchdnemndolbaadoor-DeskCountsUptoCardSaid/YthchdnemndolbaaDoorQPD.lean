import Derived.Test.YthchdnemndolbaaDoorQPA
import Derived.Test.YthchdnemndolbaaDoorQGcolour
import Derived.Test.YthchdnemndolbaaDoorQGassign
namespace Go.Proofs.YthchdnemndolbaaDoor
open Go Go.Proofs.YthchdnemndolbaaDoor.Sx
set_option linter.unusedVariables false
set_option linter.unusedSimpArgs false
def upd (c : Int → Int) (x v : Int) : Int → Int := fun y => if y = x then v else c y
theorem upd_same (c : Int → Int) (x v : Int) : upd c x v x = v := if_pos rfl
theorem upd_ne (c : Int → Int) {x y : Int} (v : Int) (h : y ≠ x) : upd c x v y = c y := if_neg h
theorem upd_comm (c : Int → Int) {x y : Int} (u v : Int) (h : x ≠ y) : upd (upd c x u) y v = upd (upd c y v) x u := by
  funext z
  unfold upd
  by_cases h1 : z = x
  · by_cases h2 : z = y
    · exact absurd (h1.symm.trans h2) h
    · rw [if_neg h2, if_pos h1, if_pos h1]
  · by_cases h2 : z = y
    · rw [if_pos h2, if_neg h1, if_pos h2]
    · rw [if_neg h2, if_neg h1, if_neg h1, if_neg h2]
def SS (K : Nat) : List Int → ((Int → Int) → Int) → (Int → Int) → Int
  | [], F, c => F c
  | x :: xs, F, c => tot (fun v => SS K xs F (upd c x v)) K
section
variable {K : Nat} {F G : (Int → Int) → Int}
theorem SS_in : ∀ {xs : List Int} {c : Int → Int}, (∀ c' : Int → Int, (∀ x, x ∈ xs → 0 ≤ c' x ∧ c' x < K) → (∀ x, x ∉ xs → c' x = c x) → F c' = G c') → SS K xs F c = SS K xs G c
  | [], c, h => h c (fun x hx => absurd hx (by simp)) (fun _ _ => rfl)
  | x :: xs, c, h => by
    simp only [SS]
    refine tot_congr fun v hv => SS_in fun c' h1 h2 => h c' (fun y hy => ?_) (fun y hy => ?_)
    · by_cases hm : y ∈ xs
      · exact h1 y hm
      · rcases List.mem_cons.1 hy with rfl | hy
        · rw [h2 y hm, upd_same]; omega
        · exact absurd hy hm
    · have hy' : y ≠ x ∧ y ∉ xs := ⟨fun e => hy (by simp [e]), fun e => hy (by simp [e])⟩
      rw [h2 y hy'.2, upd_ne _ _ hy'.1]
theorem SS_congr {xs : List Int} {c : Int → Int} (h : ∀ c', F c' = G c') : SS K xs F c = SS K xs G c := SS_in fun c' _ _ => h c'
theorem SS_sub : ∀ {xs : List Int} {c : Int → Int}, SS K xs (fun c => F c - G c) c = SS K xs F c - SS K xs G c
  | [], _ => rfl
  | x :: xs, c => by
    simp only [SS]
    rw [← tot_sub]
    exact tot_congr fun v _ => SS_sub
theorem SS_append : ∀ {xs ys : List Int} {c : Int → Int}, SS K (xs ++ ys) F c = SS K xs (fun c => SS K ys F c) c
  | [], _, _ => rfl
  | x :: xs, ys, c => by
    simp only [List.cons_append, SS]
    exact tot_congr fun v _ => SS_append
theorem SS_perm {xs ys : List Int} (h : xs.Perm ys) (hn : xs.Nodup) : ∀ {c : Int → Int}, SS K xs F c = SS K ys F c := by
  induction h with
  | nil => intro c; rfl
  | cons x _ ih =>
    intro c
    simp only [SS]
    exact tot_congr fun v _ => ih (List.nodup_cons.1 hn).2
  | swap x y l =>
    intro c
    have hne : y ≠ x := fun e => (List.nodup_cons.1 hn).1 (by simp [e])
    simp only [SS]
    rw [tot_swap]
    exact tot_congr fun u _ => tot_congr fun v _ => by rw [upd_comm _ _ _ hne]
  | trans h1 _ ih1 ih2 => intro c; rw [ih1 hn, ih2 (h1.nodup_iff.1 hn)]
theorem SS_nonneg (h : ∀ c, 0 ≤ F c) : ∀ {xs : List Int} {c : Int → Int}, 0 ≤ SS K xs F c
  | [], c => h c
  | x :: xs, c => tot_nonneg fun v _ => SS_nonneg h
theorem SS_const (m : Int) : ∀ {xs : List Int} {c : Int → Int}, SS K xs (fun _ => m) c = K ^ xs.length * m
  | [], _ => by simp [SS]
  | x :: xs, c => by
    simp only [SS]
    rw [tot_congr fun v _ => SS_const m, tot_const, List.length_cons, Int.pow_succ]
    rw [← Int.mul_assoc, Int.mul_comm (K : Int)]
theorem SS_le (h : ∀ c, F c ≤ G c) : ∀ {xs : List Int} {c : Int → Int}, SS K xs F c ≤ SS K xs G c
  | [], c => h c
  | x :: xs, c => tot_le fun v _ => SS_le h
end
def pr (l : List Arc) (c : Int → Int) : Bool := l.all fun a => decide (c a.f ≠ c a.t)
def FF (l : List Arc) (c : Int → Int) : Int := if pr l c = true then 1 else 0
theorem FF_01 (l : List Arc) (c : Int → Int) : 0 ≤ FF l c ∧ FF l c ≤ 1 := by unfold FF; split <;> omega
theorem FF_cons (a : Arc) (l : List Arc) (c : Int → Int) : FF (a :: l) c = if c a.f = c a.t then 0 else FF l c := by
  unfold FF pr
  rw [List.all_cons]
  by_cases h : c a.f = c a.t
  · rw [if_pos h]; simp [h]
  · rw [if_neg h]; simp [h]
def vars (n : Nat) : List Int := (List.range n).map fun (i : Nat) => (i : Int)
theorem vars_succ (n : Nat) : vars (n + 1) = vars n ++ [(n : Int)] := by simp [vars, List.range_succ]
theorem vars_len (n : Nat) : (vars n).length = n := by simp [vars]
theorem mem_vars {n : Nat} {x : Int} : x ∈ vars n ↔ 0 ≤ x ∧ x < n := by
  simp only [vars, List.mem_map, List.mem_range]
  constructor
  · rintro ⟨i, hi, rfl⟩; omega
  · rintro ⟨h1, h2⟩; exact ⟨x.toNat, by omega, by omega⟩
theorem vars_nodup (n : Nat) : (vars n).Nodup := by
  induction n with
  | zero => exact List.nodup_nil
  | succ n ih =>
    rw [vars_succ, List.nodup_append]
    exact ⟨ih, by simp, fun a ha b hb e => by
      obtain rfl := List.mem_singleton.1 hb
      have := mem_vars.1 ha
      omega⟩
def colN (K n : Nat) (l : List Arc) : Int := SS K (vars n) (FF l) (fun _ => 0)
theorem colN_nonneg (K n : Nat) (l : List Arc) : 0 ≤ colN K n l := SS_nonneg fun c => (FF_01 l c).1
theorem colN_nil (K n : Nat) : colN K n [] = (K : Int) ^ n := by
  unfold colN
  have e := SS_congr (K := K) (F := FF []) (G := fun _ => 1) (xs := vars n) (c := fun _ => 0) fun c => rfl
  rw [e, SS_const, vars_len, Int.mul_one]
theorem colN_le (K n : Nat) (l : List Arc) : colN K n l ≤ (K : Int) ^ n := by
  have := SS_le (K := K) (F := FF l) (G := fun _ => 1) (fun c => (FF_01 l c).2) (xs := vars n) (c := fun _ => 0)
  rw [SS_const, vars_len, Int.mul_one] at this
  exact this
theorem colN_loop (K n : Nat) {a : Arc} (h : a.f = a.t) (l : List Arc) : colN K n (a :: l) = 0 := by
  unfold colN
  rw [SS_congr (G := fun _ => 0) fun c => by rw [FF_cons, if_pos (by rw [h])], SS_const, Int.mul_zero]
def mergeI (lo hi n k : Int) : Int := if k = hi then lo else if k = n - 1 then hi else k
def mergeA (lo hi n : Int) (b : Arc) : Arc := ⟨mergeI lo hi n b.f, mergeI lo hi n b.t, 0⟩
theorem FF_map (m : Int → Int) (f : Arc → Arc) (hf : ∀ a, (f a).f = m a.f ∧ (f a).t = m a.t) (l : List Arc) (c : Int → Int) : FF (l.map f) c = FF l fun x => c (m x) := by
  induction l with
  | nil => rfl
  | cons a l ih => rw [List.map_cons, FF_cons, FF_cons, ih, (hf a).1, (hf a).2]
theorem pick_eq {K : Nat} {u : Int} (h : 0 ≤ u ∧ u < K) (g : Int → Int) : tot (fun v => if u = (v : Int) then g v else 0) K = g u := by
  rw [tot_single (k := u.toNat) (by omega) fun i _ hi => if_neg (by omega), if_pos (by omega), show ((u.toNat : Nat) : Int) = u by omega]
theorem col_merge {K n : Nat} {lo hi : Int} {r : List Arc} (h0 : 0 ≤ lo) (h1 : lo < hi) (h2 : hi < (n : Int) + 1) :
    SS K (vars (n + 1)) (fun c => if c lo = c hi then FF r c else 0) (fun _ => 0) = colN K n (r.map (mergeA lo hi ((n : Int) + 1))) := by
  have hR : colN K n (r.map (mergeA lo hi ((n : Int) + 1))) = SS K (vars n) (fun c => FF r fun x => c (mergeI lo hi ((n : Int) + 1) x)) (fun _ => 0) := SS_congr fun c => FF_map _ _ (fun a => ⟨rfl, rfl⟩) r c
  rw [hR, vars_succ]
  by_cases e : hi = (n : Int)
  · subst e
    rw [SS_append]
    refine SS_in fun c hc _ => ?_
    simp only [SS]
    have hlo := hc lo (mem_vars.2 ⟨h0, by omega⟩)
    have e1 : tot (fun v => if upd c (n : Int) (v : Int) lo = upd c (n : Int) (v : Int) (n : Int) then FF r (upd c (n : Int) (v : Int)) else 0) K = tot (fun v => if c lo = (v : Int) then FF r (upd c (n : Int) (v : Int)) else 0) K := tot_congr fun v _ => by
      rw [upd_same, upd_ne _ _ (by omega)]
    rw [e1, pick_eq hlo fun v => FF r (upd c (n : Int) v)]
    congr 1
    funext x
    unfold mergeI upd
    by_cases q : x = (n : Int)
    · rw [if_pos q, if_pos q]
    · rw [if_neg q, if_neg q, if_neg (by omega)]
  · have hm : hi ∈ vars n := mem_vars.2 ⟨by omega, by omega⟩
    have hp := List.perm_cons_erase hm
    have hnd := vars_nodup n
    have hE : ∀ x, x ∈ (vars n).erase hi ↔ x ≠ hi ∧ x ∈ vars n := fun x => hnd.mem_erase_iff
    have hp2 : (vars n).Perm ((vars n).erase hi ++ [hi]) := hp.trans (List.perm_append_singleton hi _).symm
    rw [SS_perm (hp2.append_right [(n : Int)]) (by rw [← vars_succ]; exact vars_nodup _)]
    rw [SS_perm (xs := vars n) hp2 hnd]
    rw [List.append_assoc, SS_append, SS_append]
    refine SS_in fun c hc _ => ?_
    have hlo := hc lo ((hE lo).2 ⟨by omega, mem_vars.2 ⟨h0, by omega⟩⟩)
    have sw : SS K ([hi] ++ [(n : Int)]) (fun c => if c lo = c hi then FF r c else 0) c = SS K ([(n : Int)] ++ [hi]) (fun c => if c lo = c hi then FF r c else 0) c :=
      SS_perm (List.Perm.swap _ _ _) (by simp [e])
    rw [sw]
    simp only [List.cons_append, List.nil_append, SS]
    refine tot_congr fun v _ => ?_
    have e1 : tot (fun u => if upd (upd c (n : Int) (v : Int)) hi (u : Int) lo = upd (upd c (n : Int) (v : Int)) hi (u : Int) hi then FF r (upd (upd c (n : Int) (v : Int)) hi (u : Int)) else 0) K = tot (fun u => if c lo = (u : Int) then FF r (upd (upd c (n : Int) (v : Int)) hi (u : Int)) else 0) K := tot_congr fun u _ => by
      rw [upd_same, upd_ne _ _ (by omega), upd_ne _ _ (by omega)]
    rw [e1, pick_eq hlo fun u => FF r (upd (upd c (n : Int) (v : Int)) hi u)]
    congr 1
    funext x
    unfold mergeI upd
    by_cases q1 : x = hi
    · rw [if_pos q1, if_pos q1, if_neg (by omega)]
    · rw [if_neg q1, if_neg q1]
      by_cases q2 : x = (n : Int)
      · rw [if_pos q2, if_pos (by omega)]
      · rw [if_neg q2]
        have q3 : ¬ x = (n : Int) + 1 - 1 := by omega
        rw [if_neg q3, if_neg q1]
theorem colN_cons {K n : Nat} {a : Arc} {r : List Arc} (hne : a.f ≠ a.t) (f0 : 0 ≤ a.f) (f1 : a.f < (n : Int) + 1) (t0 : 0 ≤ a.t) (t1 : a.t < (n : Int) + 1) :
    colN K (n + 1) (a :: r) = colN K (n + 1) r - colN K n (r.map (mergeA (min a.f a.t) (max a.f a.t) ((n : Int) + 1))) := by
  rw [← col_merge (by omega) (by omega) (by omega)]
  unfold colN
  rw [← SS_sub]
  refine SS_congr fun c => ?_
  rw [FF_cons]
  rcases Int.le_total a.f a.t with h | h
  · rw [Int.min_eq_left h, Int.max_eq_right h]
    by_cases e : c a.f = c a.t
    · rw [if_pos e, if_pos e]; omega
    · rw [if_neg e, if_neg e]; omega
  · rw [Int.min_eq_right h, Int.max_eq_left h]
    by_cases e : c a.f = c a.t
    · rw [if_pos e, if_pos e.symm]; omega
    · rw [if_neg e, if_neg (fun z => e z.symm)]; omega
end Go.Proofs.YthchdnemndolbaaDoor
namespace Go.Proofs.YthchdnemndolbaaDoor
open Go Go.Proofs.YthchdnemndolbaaDoor.Sx
set_option linter.unusedVariables false
set_option linter.unusedSimpArgs false
theorem subl_tail' {α : Type} [El α] (a : α) (l : List α) : subl (a :: l) 1 ((a :: l).length - 1) = l := by
  refine eq_of_getD (d := El.d) (by simp [subl_length]) fun i hi => ?_
  rw [subl_getD (by simpa [subl_length] using hi)]
  simp [List.getD_eq_getElem?_getD, Nat.add_comm]
theorem col_pow_bound {K : Int} (h0 : 0 ≤ K) (h1 : K ≤ 20) : ∀ {j : Nat}, j ≤ 8 → 0 ≤ K ^ j ∧ K ^ j ≤ 25600000000 := by
  have step : ∀ (j : Nat) (b : Int), (0 ≤ K ^ j ∧ K ^ j ≤ b) → (0 ≤ K ^ (j + 1) ∧ K ^ (j + 1) ≤ b * 20) := fun j b ⟨a1, a2⟩ => by
    rw [Int.pow_succ]
    exact ⟨Int.mul_nonneg a1 h0, Int.mul_le_mul a2 h1 h0 (by omega)⟩
  have s0 : 0 ≤ K ^ 0 ∧ K ^ 0 ≤ 1 := by rw [Int.pow_zero]; omega
  have s1 := step _ _ s0; have s2 := step _ _ s1; have s3 := step _ _ s2; have s4 := step _ _ s3
  have s5 := step _ _ s4; have s6 := step _ _ s5; have s7 := step _ _ s6; have s8 := step _ _ s7
  intro j hj
  rcases (by omega : j = 0 ∨ j = 1 ∨ j = 2 ∨ j = 3 ∨ j = 4 ∨ j = 5 ∨ j = 6 ∨ j = 7 ∨ j = 8) with rfl | rfl | rfl | rfl | rfl | rfl | rfl | rfl | rfl
  · exact ⟨s0.1, Int.le_trans s0.2 (by decide)⟩
  · exact ⟨s1.1, Int.le_trans s1.2 (by decide)⟩
  · exact ⟨s2.1, Int.le_trans s2.2 (by decide)⟩
  · exact ⟨s3.1, Int.le_trans s3.2 (by decide)⟩
  · exact ⟨s4.1, Int.le_trans s4.2 (by decide)⟩
  · exact ⟨s5.1, Int.le_trans s5.2 (by decide)⟩
  · exact ⟨s6.1, Int.le_trans s6.2 (by decide)⟩
  · exact ⟨s7.1, Int.le_trans s7.2 (by decide)⟩
  · exact ⟨s8.1, Int.le_trans s8.2 (by decide)⟩
structure InN (n : Int) (l : List Arc) : Prop where
  arc : ∀ a, a ∈ l → 0 ≤ a.f ∧ a.f < n ∧ 0 ≤ a.t ∧ a.t < n
theorem InN.tail {n : Int} {a : Arc} {l : List Arc} (h : InN n (a :: l)) : InN n l := ⟨fun b hb => h.arc b (by simp [hb])⟩
theorem mergeI_in {lo hi n k : Int} (h0 : 0 ≤ lo) (h1 : lo < hi) (h2 : hi < n) (k0 : 0 ≤ k) (k1 : k < n) : 0 ≤ mergeI lo hi n k ∧ mergeI lo hi n k < n - 1 := by
  unfold mergeI
  by_cases q1 : k = hi
  · rw [if_pos q1]; omega
  · rw [if_neg q1]
    by_cases q2 : k = n - 1
    · rw [if_pos q2]; omega
    · rw [if_neg q2]; omega
theorem InN.merge {lo hi n : Int} {l : List Arc} (h : InN n l) (h0 : 0 ≤ lo) (h1 : lo < hi) (h2 : hi < n) : InN (n - 1) (l.map (mergeA lo hi n)) := ⟨fun b hb => by
  obtain ⟨a, ha, rfl⟩ := List.mem_map.1 hb
  obtain ⟨q1, q2, q3, q4⟩ := h.arc a ha
  have m1 := mergeI_in h0 h1 h2 q1 q2
  have m2 := mergeI_in h0 h1 h2 q3 q4
  simp only [mergeA]
  omega⟩
theorem at_eq (p hi lo n : Int) (hn : InI (n - 1)) : colour_count_c1_F p hi lo n = some (mergeI lo hi n p) := by
  unfold colour_count_c1_F mergeI
  rw [ck_some hn]
  split
  · rfl
  · split <;> rfl
theorem merge_loop {n : Int} {a : Arc} {r : List Arc} (hn : InI (n - 1)) (hr : r.length ≤ 1000) :
    forN (colour_count_B2 n (a :: r)) r.length 0 [] = some (r.map (mergeA (min a.f a.t) (max a.f a.t) n)) := by
  obtain ⟨s, e, h⟩ := forN_inv (f := colour_count_B2 n (a :: r)) (fun j s => s = (r.take j).map (mergeA (min a.f a.t) (max a.f a.t) n)) (n := r.length) (k := 0) (s := []) rfl fun j s _ hj hs => by
    have hj' : j < r.length := by omega
    unfold colour_count_B2
    rw [subl_tail']
    have e0 : (a :: r).getD 0 El.d = a := rfl
    rw [e0, at_eq _ _ _ _ hn, bind_some', at_eq _ _ _ _ hn, bind_some', ck_some (by rw [hs]; simp; omega)]
    refine ⟨_, rfl, ?_⟩
    have ht : r.take (j + 1) = r.take j ++ [r.getD j El.d] := take_succ_getD hj'
    rw [ht, List.map_append, hs]
    rfl
  rw [e, h, Nat.zero_add, List.take_of_length_le (Nat.le_refl _)]
theorem col_count_eq {K : Nat} (hK : K ≤ 20) : ∀ (fuel : Nat) {n : Nat} {l : List Arc}, l.length < fuel → n ≤ 8 → l.length ≤ 12 → InN n l → colour_count_F fuel n l K = some (colN K n l)
  | 0, _, _, h, _, _, _ => absurd h (by omega)
  | fuel + 1, n, [], _, hn, _, _ => by
    show colour_count_S _ _ _ _ = _
    unfold colour_count_S
    rw [if_pos (by simp), ck_some (inI_small (by omega) (by omega)), Int.toNat_natCast]
    obtain ⟨x, e, h⟩ := forN_inv (f := colour_count_B1 (K : Int)) (fun j x => x = (K : Int) ^ j) (n := n) (k := 0) (s := 1) rfl fun j x _ hj hx => by
      have := col_pow_bound (K := (K : Int)) (by omega) (by omega) (j := j + 1) (by omega)
      unfold colour_count_B1
      have e : x * (K : Int) = (K : Int) ^ (j + 1) := by rw [hx, Int.pow_succ]
      rw [e, ck_some (by unfold InI; omega)]
      exact ⟨_, rfl, rfl⟩
    rw [e, bind_some', h, Nat.zero_add, colN_nil]
  | fuel + 1, n, a :: r, hf, hn, hl, hin => by
    obtain ⟨f0, f1, t0, t1⟩ := hin.arc a (by simp)
    simp only [List.length_cons] at hf hl
    show colour_count_S _ _ _ _ = _
    unfold colour_count_S
    have e0 : (a :: r).getD 0 El.d = a := rfl
    rw [if_neg (by simp only [List.length_cons]; omega), ck_some (by simp), ck_some (by simp), e0, subl_tail']
    by_cases he : a.f = a.t
    · rw [if_pos he, colN_loop _ _ he]
    · obtain ⟨m, rfl⟩ : ∃ m, n = m + 1 := ⟨n - 1, by omega⟩
      have c1 := colN_nonneg K (m + 1) r
      have c2 := colN_le K (m + 1) r
      have c3 := (col_pow_bound (K := (K : Int)) (by omega) (by omega) hn).2
      have d1 := colN_nonneg K m (r.map (mergeA (min a.f a.t) (max a.f a.t) ((m : Int) + 1)))
      have d2 := colN_le K m (r.map (mergeA (min a.f a.t) (max a.f a.t) ((m : Int) + 1)))
      have d3 := (col_pow_bound (K := (K : Int)) (by omega) (by omega) (j := m) (by omega)).2
      have hcast : ((m + 1 : Nat) : Int) = (m : Int) + 1 := by omega
      rw [if_neg he, merge_loop (by unfold InI; omega) (by omega), bind_some', ck_some (by unfold InI; omega)]
      rw [col_count_eq hK fuel (by omega) hn (by omega) hin.tail, bind_some', hcast, show (m : Int) + 1 - 1 = (m : Int) by omega]
      have hmi := InN.merge (lo := min a.f a.t) (hi := max a.f a.t) hin.tail (by omega) (by omega) (by omega)
      rw [hcast, show (m : Int) + 1 - 1 = (m : Int) by omega] at hmi
      rw [col_count_eq hK fuel (by simp; omega) (by omega) (by simp; omega) hmi, bind_some', ck_some (by unfold InI; omega)]
      rw [colN_cons he f0 (by omega) t0 (by omega)]
structure OkC (g : Graph) (many : Int) : Prop where
  ok : Ok g
  n : g.n ≤ 8
  l : g.as.length ≤ 12
  m0 : 0 ≤ many
  m1 : many ≤ 20
theorem col_count_ok {g : Graph} {many : Int} (h : OkC g many) : colour_Count_F g many = some (colN many.toNat g.n.toNat g.as, 0) := by
  have n0 := h.ok.n0; have hn := h.n; have hl := h.l; have m0 := h.m0; have m1 := h.m1
  unfold colour_Count_F
  rw [checkLong_ok h.ok, bind_some', if_neg (by decide), if_neg (by omega), if_neg (by omega), if_neg (by omega), if_neg (by omega)]
  have := col_count_eq (K := many.toNat) (by omega) 100 (n := g.n.toNat) (l := g.as) (by omega) (by omega) (by omega) ⟨fun a ha => by
    have hG := h.ok.arc a ha
    have := hG.f0; have := hG.f1; have := hG.t0; have := hG.t1
    omega⟩
  rw [show ((g.n.toNat : Nat) : Int) = g.n by omega, show ((many.toNat : Nat) : Int) = many by omega] at this
  rw [this, bind_some']
theorem col_count_bad {g : Graph} {many : Int} (h : ¬ OkC g many) : ∃ e, e ≠ 0 ∧ colour_Count_F g many = some (0, e) := by
  unfold colour_Count_F
  rw [checkLong_eq, bind_some']
  by_cases hc : checkF g (-10000) = 0
  · rw [if_neg (by simpa using hc)]
    by_cases h1 : 8 < g.n
    · rw [if_pos h1]; exact ⟨2, by decide, rfl⟩
    rw [if_neg h1]
    by_cases h2 : 12 < ((g.as.length : Nat) : Int)
    · rw [if_pos h2]; exact ⟨2, by decide, rfl⟩
    rw [if_neg h2]
    by_cases h3 : many < 0
    · rw [if_pos h3]; exact ⟨1, by decide, rfl⟩
    rw [if_neg h3]
    by_cases h4 : 20 < many
    · rw [if_pos h4]; exact ⟨1, by decide, rfl⟩
    · exact absurd ⟨(checkF_ok g _).1 hc, by omega, by omega, by omega, by omega⟩ h
  · rw [if_pos hc]; exact ⟨_, hc, rfl⟩
end Go.Proofs.YthchdnemndolbaaDoor
namespace Go.Proofs.YthchdnemndolbaaDoor
open Go Go.Proofs.YthchdnemndolbaaDoor.Sx
set_option linter.unusedVariables false
set_option linter.unusedSimpArgs false
def inS (set k : Nat) : Bool := set / 2 ^ k % 2 == 1
def dropS (set k : Nat) : Nat := if inS set k = true then set - 2 ^ k else set
theorem bitS_table : ∀ set : Fin 512, ∀ k : Fin 9, bitsOf .and .i64 (Int.fdiv ((set.val : Nat) : Int) (2 ^ min k.val 64)) 1 = if inS set.val k.val = true then 1 else 0 := by decide +kernel
theorem bitS {set k : Nat} (hs : set < 512) (hk : k < 9) : bitsOf .and .i64 (Int.fdiv ((set : Nat) : Int) (2 ^ min k 64)) 1 = if inS set k = true then 1 else 0 := bitS_table ⟨set, hs⟩ ⟨k, hk⟩
theorem dropS_table : ∀ set : Fin 512, ∀ k : Fin 9, bitsOf .andNot .i64 ((set.val : Nat) : Int) (IntKind.i64.wrap (1 * 2 ^ min k.val 64)) = ((dropS set.val k.val : Nat) : Int) := by decide +kernel
theorem dropS_eq {set k : Nat} (hs : set < 512) (hk : k < 9) : bitsOf .andNot .i64 ((set : Nat) : Int) (IntKind.i64.wrap (1 * 2 ^ min k 64)) = ((dropS set k : Nat) : Int) := dropS_table ⟨set, hs⟩ ⟨k, hk⟩
theorem dropS_le (set k : Nat) : dropS set k ≤ set := by
  unfold dropS
  split
  · exact Nat.sub_le _ _
  · exact Nat.le_refl _
theorem inDrop_table : ∀ set : Fin 512, ∀ k j : Fin 9, inS (dropS set.val k.val) j.val = (inS set.val j.val && decide (j.val ≠ k.val)) := by decide +kernel
theorem inDrop {set k j : Nat} (hs : set < 512) (hk : k < 9) (hj : j < 9) : inS (dropS set k) j = (inS set j && decide (j ≠ k)) := inDrop_table ⟨set, hs⟩ ⟨k, hk⟩ ⟨j, hj⟩
theorem dropS_lt {set k : Nat} (h : inS set k = true) : dropS set k < set := by
  unfold dropS
  rw [if_pos h]
  have hp : 0 < 2 ^ k := Nat.pow_pos (by decide)
  have h1 : set / 2 ^ k % 2 = 1 := by unfold inS at h; simpa using h
  have : 0 < set / 2 ^ k := by
    rcases Nat.eq_zero_or_pos (set / 2 ^ k) with e | e
    · rw [e] at h1; simp at h1
    · exact e
  have := (Nat.div_pos_iff.1 this).2
  omega
end Go.Proofs.YthchdnemndolbaaDoor
namespace Go.Proofs.YthchdnemndolbaaDoor
open Go Go.Proofs.YthchdnemndolbaaDoor.Sx
set_option linter.unusedVariables false
set_option linter.unusedSimpArgs false
structure InjN (n : Nat) (σ : Nat → Nat) : Prop where
  lt : ∀ i, i < n → σ i < n
  inj : ∀ i j, i < n → j < n → σ i = σ j → i = j
inductive Pth (n : Nat) (w : Nat → Nat → Int) (a : Nat) : List Nat → Nat → Int → Prop where
  | one : a < n → Pth n w a [a] a 0
  | snoc {L : List Nat} {k l : Nat} {v : Int} : Pth n w a L k v → l < n → l ∉ L → Pth n w a (l :: L) l (v + w k l)
section
variable {n : Nat} {U : Nat → Nat → Int}
def BestU (n : Nat) (U : Nat → Nat → Int) : Prop := ∀ σ, InjN n σ → tot (fun i => U i (σ i)) n ≤ tot (fun i => U i i) n
end
end Go.Proofs.YthchdnemndolbaaDoor
namespace Go.Proofs.YthchdnemndolbaaDoor
open Go Go.Proofs.YthchdnemndolbaaDoor.Sx
set_option linter.unusedVariables false
set_option linter.unusedSimpArgs false
def onesN (S : Nat) : Nat := cnt (inS S) 9
theorem ones_table : ∀ S : Fin 512, assign_ones_F ((S.val : Nat) : Int) = some ((onesN S.val : Nat) : Int) := by decide +kernel
theorem ones_ok {S : Nat} (h : S < 512) : assign_ones_F ((S : Nat) : Int) = some ((onesN S : Nat) : Int) := ones_table ⟨S, h⟩
theorem onesDrop_table : ∀ S : Fin 512, ∀ k : Fin 9, inS S.val k.val = true → onesN (dropS S.val k.val) + 1 = onesN S.val := by decide +kernel
theorem onesDrop {S k : Nat} (h : S < 512) (hk : k < 9) (hi : inS S k = true) : onesN (dropS S k) + 1 = onesN S := onesDrop_table ⟨S, h⟩ ⟨k, hk⟩ hi
theorem ones0_table : ∀ S : Fin 512, onesN S.val = 0 → S.val = 0 := by decide +kernel
theorem ones0 {S : Nat} (h : S < 512) (h0 : onesN S = 0) : S = 0 := ones0_table ⟨S, h⟩ h0
theorem sub_table : ∀ n : Fin 7, ∀ S : Fin 64, S.val < 2 ^ n.val → onesN S.val ≤ n.val ∧ ∀ k : Fin 9, inS S.val k.val = true → k.val < n.val := by decide +kernel
theorem fullA_table : ∀ n : Fin 7, IntKind.i64.wrap (1 * 2 ^ min n.val 64) = ((2 ^ n.val : Nat) : Int) ∧ 2 ^ n.val ≤ 64 ∧ 1 ≤ 2 ^ n.val ∧ onesN (2 ^ n.val - 1) = n.val ∧ ∀ k : Fin 9, k.val < n.val → inS (2 ^ n.val - 1) k.val = true := by decide +kernel
theorem toNat_sub_nat (a b : Nat) : ((a : Int) - (b : Int)).toNat = a - b := by omega
theorem in0 (k : Nat) : inS 0 k = false := by simp [inS]
inductive AsgS (W : Nat → Nat → Int) : Nat → Nat → List Nat → Int → Prop where
  | nil (r : Nat) : AsgS W 0 r [] 0
  | step {S r k : Nat} {l : List Nat} {v : Int} : k < 9 → inS S k = true → AsgS W (dropS S k) (r + 1) l v → AsgS W S r (k :: l) (W r k + v)
theorem AsgS.bnd {W : Nat → Nat → Int} (hW : ∀ i k, -1000 ≤ W i k ∧ W i k ≤ 1000) {S r : Nat} {l : List Nat} {v : Int} (h : AsgS W S r l v) : -1000 * (l.length : Int) ≤ v ∧ v ≤ 1000 * (l.length : Int) := by
  induction h with
  | nil r => simp
  | @step S r k l v hk hi h ih =>
    have := hW r k
    simp only [List.length_cons]
    omega
theorem AsgS.len {W : Nat → Nat → Int} {S r : Nat} {l : List Nat} {v : Int} (h : AsgS W S r l v) : S < 512 → l.length = onesN S := by
  induction h with
  | nil r => intro _; rfl
  | @step S r k l v hk hi h ih =>
    intro hS
    have := onesDrop hS hk hi
    have d := dropS_le S k
    have := ih (by omega)
    simp only [List.length_cons]
    omega
theorem AsgS.mem {W : Nat → Nat → Int} {S r : Nat} {l : List Nat} {v : Int} (h : AsgS W S r l v) : S < 512 → ∀ k, k < 9 → (inS S k = true ↔ k ∈ l) := by
  induction h with
  | nil r => intro _ k _; rw [in0]; simp
  | @step S r k l v hk hi h ih =>
    intro hS j hj
    have d := dropS_le S k
    have := ih (by omega) j hj
    rw [inDrop hS hk hj] at this
    simp only [Bool.and_eq_true, decide_eq_true_eq] at this
    rw [List.mem_cons, ← this]
    by_cases e : j = k
    · subst e; simp [hi]
    · simp [e]
theorem AsgS.small {W : Nat → Nat → Int} {S r : Nat} {l : List Nat} {v : Int} (h : AsgS W S r l v) : ∀ k, k ∈ l → k < 9 := by
  induction h with
  | nil r => intro k hk; cases hk
  | @step S r k l v hk hi h ih =>
    intro j hj
    rcases List.mem_cons.1 hj with h | h
    · omega
    · exact ih j h
theorem AsgS.nodup {W : Nat → Nat → Int} {S r : Nat} {l : List Nat} {v : Int} (h : AsgS W S r l v) : S < 512 → l.Nodup := by
  induction h with
  | nil r => intro _; exact List.nodup_nil
  | @step S r k l v hk hi h ih =>
    intro hS
    have d := dropS_le S k
    refine List.nodup_cons.2 ⟨fun hm => ?_, ih (by omega)⟩
    have := (h.mem (by omega) k hk).2 hm
    rw [inDrop hS hk hk] at this
    simp at this
theorem AsgS.sum {W : Nat → Nat → Int} {S r : Nat} {l : List Nat} {v : Int} (h : AsgS W S r l v) : v = tot (fun i => W (r + i) (l.getD i 0)) l.length := by
  induction h with
  | nil r => rfl
  | @step S r k l v hk hi h ih =>
    rw [List.length_cons, Nat.add_comm, tot_split, ih]
    have e1 : tot (fun i => W (r + i) ((k :: l).getD i 0)) 1 = W r k := by simp [tot]
    rw [e1]
    congr 1
    exact tot_congr fun i _ => by
      rw [show r + (1 + i) = r + 1 + i by omega, show 1 + i = i + 1 by omega, List.getD_cons_succ]
theorem AsgS.make {W : Nat → Nat → Int} : ∀ {l : List Nat} {S r : Nat}, S < 512 → l.Nodup → (∀ k, k ∈ l → k < 9 ∧ inS S k = true) → l.length = onesN S → ∃ v, AsgS W S r l v
  | [], S, r, hS, _, _, hl => by
    obtain rfl := ones0 hS hl.symm
    exact ⟨0, .nil r⟩
  | k :: l, S, r, hS, hn, hm, hl => by
    obtain ⟨hk, hi⟩ := hm k (by simp)
    have d := dropS_le S k
    have o := onesDrop hS hk hi
    obtain ⟨hk2, hn2⟩ := List.nodup_cons.1 hn
    obtain ⟨v, hv⟩ := AsgS.make (W := W) (l := l) (S := dropS S k) (r := r + 1) (by omega) hn2 (fun j hj => by
      obtain ⟨h1, h2⟩ := hm j (by simp [hj])
      refine ⟨h1, ?_⟩
      rw [inDrop hS hk h1, h2]
      simp only [Bool.true_and, decide_eq_true_eq]
      exact fun e => hk2 (e ▸ hj)) (by simp only [List.length_cons] at hl; omega)
    exact ⟨_, .step hk hi hv⟩
structure TabS (W : Nat → Nat → Int) (S r : Nat) (v : Int) : Prop where
  has : ∃ l, AsgS W S r l v
  most : ∀ l x, AsgS W S r l x → x ≤ v
structure GainOk (gain : List (List Int)) : Prop where
  n6 : gain.length ≤ 6
  row : ∀ i, i < gain.length → (gain.getD i []).length = gain.length
  bnd : ∀ i k, -1000 ≤ (gain.getD i []).getD k 0 ∧ (gain.getD i []).getD k 0 ≤ 1000
def Wg (gain : List (List Int)) (i k : Nat) : Int := (gain.getD i []).getD k 0
theorem assign_check (gain : List (List Int)) : ∃ e, assign_Check_F gain = some e ∧ (e = 0 ↔ GainOk gain) := by
  unfold assign_Check_F
  by_cases c : 6 < ((gain.length : Nat) : Int)
  · rw [if_pos c]
    exact ⟨2, rfl, by simp, fun h => by have := h.n6; omega⟩
  · rw [if_neg c]
    have inner : ∀ k, ∃ q : Ex Unit (Ct Unit Int), forC (assign_Check_B2 gain k) ((gain.getD k []).length) 0 () = some q ∧ ((q = .go () ∧ ∀ j, j < (gain.getD k []).length → -1000 ≤ (gain.getD k []).getD j 0 ∧ (gain.getD k []).getD j 0 ≤ 1000) ∨ (q = .ret (.ret 1) ∧ ∃ j, ¬ (-1000 ≤ (gain.getD k []).getD j 0 ∧ (gain.getD k []).getD j 0 ≤ 1000))) := fun k =>
      forC_or (f := assign_Check_B2 gain k) (fun j _ => ∀ i, i < j → -1000 ≤ (gain.getD k []).getD i 0 ∧ (gain.getD k []).getD i 0 ≤ 1000) (fun q => (q = .go () ∧ ∀ j, j < (gain.getD k []).length → -1000 ≤ (gain.getD k []).getD j 0 ∧ (gain.getD k []).getD j 0 ≤ 1000) ∨ (q = .ret (.ret 1) ∧ ∃ j, ¬ (-1000 ≤ (gain.getD k []).getD j 0 ∧ (gain.getD k []).getD j 0 ≤ 1000))) (fun i hi => absurd hi (by omega)) (fun j s _ hj hI => by
        unfold assign_Check_B2
        by_cases c1 : (gain.getD k []).getD j 0 < -1000
        · rw [if_pos c1]
          exact .inr (.inr ⟨_, rfl, .inr ⟨rfl, j, by omega⟩⟩)
        · rw [if_neg c1]
          by_cases c2 : 1000 < (gain.getD k []).getD j 0
          · rw [if_pos c2]
            exact .inr (.inr ⟨_, rfl, .inr ⟨rfl, j, by omega⟩⟩)
          · rw [if_neg c2]
            refine .inl ⟨(), rfl, fun i hi => ?_⟩
            by_cases e : i = j
            · subst e; omega
            · exact hI i (by omega)) (fun s hI => .inl ⟨rfl, fun j hj => hI j (by omega)⟩)
    obtain ⟨q, e, h | h⟩ := forC_or (f := assign_Check_B1 gain) (fun j _ => ∀ i, i < j → (gain.getD i []).length = gain.length ∧ ∀ k, k < (gain.getD i []).length → -1000 ≤ (gain.getD i []).getD k 0 ∧ (gain.getD i []).getD k 0 ≤ 1000) (fun q : Ex Unit Int => (q = .go () ∧ ∀ i, i < gain.length → (gain.getD i []).length = gain.length ∧ ∀ k, k < (gain.getD i []).length → -1000 ≤ (gain.getD i []).getD k 0 ∧ (gain.getD i []).getD k 0 ≤ 1000) ∨ ∃ x : Int, q = .ret x ∧ x ≠ 0 ∧ ¬ GainOk gain) (n := gain.length) (k := 0) (s := ()) (fun i hi => absurd hi (by omega)) (fun j s _ hj hI => by
        unfold assign_Check_B1
        by_cases c1 : (((gain.getD j []).length : Nat) : Int) ≠ ((gain.length : Nat) : Int)
        · rw [if_pos c1]
          exact .inr (.inr ⟨_, rfl, .inr ⟨3, rfl, by decide, fun h => c1 (by rw [h.row j (by omega)])⟩⟩)
        · rw [if_neg c1]
          obtain ⟨q, e, ⟨rfl, h⟩ | ⟨rfl, i, h⟩⟩ := inner j
          · rw [e, bind_some']
            refine .inl ⟨(), rfl, fun i hi => ?_⟩
            by_cases e : i = j
            · subst e; exact ⟨by omega, h⟩
            · exact hI i (by omega)
          · rw [e, bind_some']
            exact .inr (.inr ⟨_, rfl, .inr ⟨1, rfl, by decide, fun hg => h (hg.bnd j i)⟩⟩)) (fun s hI => .inl ⟨rfl, fun i hi => hI i (by omega)⟩)
    · obtain ⟨rfl, h⟩ := h
      rw [e, bind_some']
      refine ⟨0, rfl, fun _ => ⟨by omega, fun i hi => (h i hi).1, fun i k => ?_⟩, fun _ => rfl⟩
      by_cases hi : i < gain.length
      · by_cases hk : k < (gain.getD i []).length
        · exact (h i hi).2 k hk
        · rw [getD_big (l := gain.getD i []) (by omega)]; omega
      · rw [getD_big (l := gain) (by omega)]; simp
    · obtain ⟨x, rfl, hx, hg⟩ := h
      rw [e, bind_some']
      exact ⟨x, rfl, fun h => absurd h hx, fun h => absurd h hg⟩
section
variable {gain : List (List Int)} (hg : GainOk gain)
include hg
theorem best_entry {S : Nat} (h0 : 0 < S) (hS : S < 2 ^ gain.length) {l : List Int} (hl : l.length = 2 ^ gain.length) (hT : ∀ T, T < S → TabS (Wg gain) T (gain.length - onesN T) (l.getD T 0)) :
    ∃ l', forN (assign_Best_B2 gain S (onesN S)) gain.length 0 (l.set S ((-1000) * (((gain.length + 1) : Nat) : Int))) = some l' ∧ l'.length = l.length ∧ (∀ i, i ≠ S → l'.getD i 0 = l.getD i 0) ∧ TabS (Wg gain) S (gain.length - onesN S) (l'.getD S 0) := by
  have n6 := hg.n6
  obtain ⟨t1, t2, t3, t4, t5⟩ := fullA_table ⟨gain.length, by omega⟩
  dsimp only at t1 t2 t3 t4 t5
  have hS5 : S < 512 := by omega
  obtain ⟨s1, s2⟩ := sub_table ⟨gain.length, by omega⟩ ⟨S, by omega⟩ hS
  dsimp only at s1 s2
  have hpos : 0 < onesN S := by
    rcases Nat.eq_zero_or_pos (onesN S) with h | h
    · have := ones0 hS5 h; omega
    · exact h
  have hrow : gain.length - onesN S < gain.length := by omega
  have sub : ∀ k, k < 9 → inS S k = true → TabS (Wg gain) (dropS S k) (gain.length - onesN S + 1) (l.getD (dropS S k) 0) := fun k hk hin => by
    have := hT _ (dropS_lt hin)
    have o := onesDrop hS5 hk hin
    rwa [show gain.length - onesN (dropS S k) = gain.length - onesN S + 1 by omega] at this
  have vb : ∀ k, k < 9 → inS S k = true → -1000 * ((onesN S : Nat) : Int) + 1000 ≤ l.getD (dropS S k) 0 ∧ l.getD (dropS S k) 0 ≤ 6000 := fun k hk hin => by
    obtain ⟨p, hp⟩ := (sub k hk hin).has
    have b := hp.bnd hg.bnd
    have o := onesDrop hS5 hk hin
    have d := dropS_le S k
    rw [hp.len (by omega)] at b
    omega
  obtain ⟨l', e, h1, h2, h3, h4⟩ := forN_inv (f := assign_Best_B2 gain S (onesN S)) (fun j (m : List Int) => m.length = l.length ∧ (∀ i, i ≠ S → m.getD i 0 = l.getD i 0) ∧ (∀ k, k < j → k < 9 → inS S k = true → Wg gain (gain.length - onesN S) k + l.getD (dropS S k) 0 ≤ m.getD S 0) ∧ ((m.getD S 0 = (-1000) * (((gain.length + 1) : Nat) : Int) ∧ ∀ k, k < j → k < 9 → inS S k = false) ∨ ∃ k, k < 9 ∧ inS S k = true ∧ m.getD S 0 = Wg gain (gain.length - onesN S) k + l.getD (dropS S k) 0)) (n := gain.length) (k := 0) (s := l.set S ((-1000) * (((gain.length + 1) : Nat) : Int))) ⟨by simp, fun i hi => by rw [getD_set', if_neg (fun z => hi z.1)], fun k hk => absurd hk (by omega), .inl ⟨by rw [getD_set', if_pos ⟨rfl, by omega⟩], fun k hk => absurd hk (by omega)⟩⟩ fun j m _ hj ⟨i1, i2, i3, i4⟩ => by
    have hj9 : j < 9 := by omega
    unfold assign_Best_B2
    rw [bitS hS5 hj9]
    cases hin : inS S j with
    | false =>
      rw [if_neg (show ¬ (false = true) from by decide), if_neg (by decide)]
      refine ⟨_, rfl, i1, i2, fun k hk hk9 hkin => ?_, ?_⟩
      · by_cases ek : k = j
        · subst ek; rw [hin] at hkin; exact Bool.noConfusion hkin
        · exact i3 k (by omega) hk9 hkin
      · rcases i4 with ⟨a, b⟩ | h
        · refine .inl ⟨a, fun k hk hk9 => ?_⟩
          by_cases ek : k = j
          · subst ek; exact hin
          · exact b k (by omega) hk9
        · exact .inr h
    | true =>
      have d := dropS_lt hin
      have er : (((gain.length : Nat) : Int) - ((onesN S : Nat) : Int)).toNat = gain.length - onesN S := toNat_sub_nat _ _
      have hWb := hg.bnd (gain.length - onesN S) j
      have hvb := vb j hj9 hin
      have hget : m.getD (dropS S j) 0 = l.getD (dropS S j) 0 := i2 _ (by omega)
      rw [if_pos rfl, if_pos rfl, ck_some (by omega), ck_some ⟨by omega, by omega⟩, er, hg.row _ hrow, ck_some (by omega), dropS_eq hS5 hj9, ck_some (by omega), Int.toNat_natCast, hget, ck_some (inI_small (by omega) (by omega))]
      have enew : (m.set S (max (m.getD S 0) ((gain.getD (gain.length - onesN S) []).getD j 0 + l.getD (dropS S j) 0))).getD S 0 = max (m.getD S 0) (Wg gain (gain.length - onesN S) j + l.getD (dropS S j) 0) := by rw [getD_set', if_pos ⟨rfl, by omega⟩]; rfl
      refine ⟨_, rfl, by simpa using i1, fun i hi => by rw [getD_set', if_neg (fun z => hi z.1)]; exact i2 i hi, fun k hk hk9 hkin => ?_, ?_⟩
      · rw [enew]
        by_cases ek : k = j
        · subst ek; omega
        · have := i3 k (by omega) hk9 hkin
          omega
      · rw [enew]
        right
        rcases i4 with ⟨a, b⟩ | ⟨k, hk, hkin, h⟩
        · refine ⟨j, hj9, hin, ?_⟩
          have hWb' : -1000 ≤ Wg gain (gain.length - onesN S) j := hWb.1
          rw [a]
          omega
        · rcases Int.le_total (m.getD S 0) (Wg gain (gain.length - onesN S) j + l.getD (dropS S j) 0) with c | c
          · exact ⟨j, hj9, hin, Int.max_eq_right c⟩
          · exact ⟨k, hk, hkin, by rw [Int.max_eq_left c]; exact h⟩
  refine ⟨l', e, h1, h2, ?_⟩
  rcases h4 with ⟨_, b⟩ | ⟨k, hk, hkin, h⟩
  · exfalso
    have : onesN S = 0 := by
      obtain ⟨p, hp⟩ : ∃ p, p = onesN S := ⟨_, rfl⟩
      have : ∀ m, cnt (inS S) m ≤ cnt (fun _ => false) m := fun m => cnt_mono fun x hx h => by
        by_cases hx9 : x < gain.length
        · have h9 : x < 9 := by omega
          rw [b x (by omega) h9] at h; exact h
        · exfalso
          by_cases hx10 : x < 9
          · have := s2 ⟨x, hx10⟩ h
            dsimp only at this
            omega
          · have : S / 2 ^ x = 0 := Nat.div_eq_of_lt (by
              have : 2 ^ 9 ≤ 2 ^ x := Nat.pow_le_pow_right (by decide) (by omega)
              omega)
            unfold inS at h
            rw [this] at h
            simp at h
      have z : cnt (fun _ => false) 9 = 0 := by decide
      have := this 9
      unfold onesN
      omega
    omega
  · have hsub := sub k hk hkin
    refine ⟨?_, fun p x hp => ?_⟩
    · obtain ⟨p, hp⟩ := hsub.has
      exact ⟨k :: p, by rw [h]; exact .step hk hkin hp⟩
    · generalize hr : gain.length - onesN S = r at *
      cases hp with
      | nil => omega
      | step hk' hin' hp' =>
        have := (sub _ hk' hin').most _ _ hp'
        have hlt := s2 ⟨_, hk'⟩ hin'
        dsimp only at hlt
        have := h3 _ (by omega) hk' hin'
        omega
theorem best_table : ∃ l, (loopC (assign_Best_B1 gain) 1000000 ((List.replicate (2 ^ gain.length) (0 : Int)), 1)) = some (.go (l, 2 ^ gain.length)) ∧ l.length = 2 ^ gain.length ∧ ∀ T, T < 2 ^ gain.length → TabS (Wg gain) T (gain.length - onesN T) (l.getD T 0) := by
  have n6 := hg.n6
  obtain ⟨t1, t2, t3, t4, t5⟩ := fullA_table ⟨gain.length, by omega⟩
  dsimp only at t1 t2 t3 t4 t5
  obtain ⟨q, e, σ, rfl, h0, h1, h2⟩ := loopC_or (f := assign_Best_B1 gain) (fun (τ : List Int × Nat) => τ.1.length = 2 ^ gain.length ∧ 1 ≤ τ.2 ∧ τ.2 ≤ 2 ^ gain.length ∧ (∀ T, T < τ.2 → TabS (Wg gain) T (gain.length - onesN T) (τ.1.getD T 0))) (fun q => ∃ σ : List Int × Nat, q = .go σ ∧ σ.2 = 2 ^ gain.length ∧ σ.1.length = 2 ^ gain.length ∧ ∀ T, T < 2 ^ gain.length → TabS (Wg gain) T (gain.length - onesN T) (σ.1.getD T 0)) (fun τ => 2 ^ gain.length - τ.2) (fun τ ⟨i1, i2, i3, i4⟩ => by
    obtain ⟨l, S⟩ := τ
    dsimp only at i1 i2 i3 i4
    unfold assign_Best_B1
    dsimp only
    rw [t1]
    by_cases c : ((S : Nat) : Int) < ((2 ^ gain.length : Nat) : Int)
    · have hS : S < 2 ^ gain.length := by omega
      obtain ⟨s1, s2⟩ := sub_table ⟨gain.length, by omega⟩ ⟨S, by omega⟩ hS
      dsimp only at s1 s2
      obtain ⟨l', e, p1, p2, p3⟩ := best_entry hg (S := S) (by omega) hS (l := l) i1 i4
      rw [if_pos c, ones_ok (by omega), bind_some', ck_some (inI_small (by omega) (by omega)), ck_some (inI_small (by omega) (by omega)), ck_some (inI_small (by omega) (by omega)), ck_some (by omega), e, bind_some', ck_some (inI_small (by omega) (by omega))]
      refine .inl ⟨_, rfl, ⟨by dsimp only; omega, by dsimp only; omega, by dsimp only; omega, fun T hT => ?_⟩, by dsimp only; omega⟩
      dsimp only at hT ⊢
      by_cases eT : T = S
      · rw [eT]; exact p3
      · rw [p2 T eT]; exact i4 T (by omega)
    · rw [if_neg c]
      exact .inr (.inl ⟨_, rfl, _, rfl, by dsimp only; omega, i1, fun T hT => i4 T (by omega)⟩)) (n := 1000000) (s := (List.replicate (2 ^ gain.length) (0 : Int), 1)) ⟨by simp, Nat.le_refl _, by dsimp only; omega, fun T hT => by
      have e0 : T = 0 := by dsimp only at hT; omega
      subst e0
      have : (List.replicate (2 ^ gain.length) (0 : Int)).getD 0 0 = 0 := by rw [getD_replicate']; split <;> rfl
      rw [this]
      refine ⟨⟨[], .nil _⟩, fun p x hp => ?_⟩
      cases hp with
      | nil => exact Int.le_refl _
      | step hk hin _ => rw [in0] at hin; exact Bool.noConfusion hin⟩ (by dsimp only; omega)
  obtain ⟨l, n⟩ := σ
  dsimp only at h0 h1 h2
  subst h0
  exact ⟨l, e, h1, h2⟩
theorem best_pass {l : List Int} (hl : l.length = 2 ^ gain.length) (hT : ∀ T, T < 2 ^ gain.length → TabS (Wg gain) T (gain.length - onesN T) (l.getD T 0)) :
    ∃ p : List Nat, loopC (assign_Best_B3 gain l) 1000000 ([], ((2 ^ gain.length : Nat) : Int) - 1) = some (.go (p.map fun (k : Nat) => (k : Int), 0)) ∧ AsgS (Wg gain) (2 ^ gain.length - 1) 0 p (l.getD (2 ^ gain.length - 1) 0) := by
  have n6 := hg.n6
  obtain ⟨t1, t2, t3, t4, t5⟩ := fullA_table ⟨gain.length, by omega⟩
  dsimp only at t1 t2 t3 t4 t5
  generalize hF : 2 ^ gain.length - 1 = F at *
  obtain ⟨q, e, h⟩ := loopC_or (f := assign_Best_B3 gain l) (fun (τ : List Int × Int) => ∃ (p : List Nat) (S : Nat) (acc : Int), τ = (p.map fun (k : Nat) => (k : Int), (S : Int)) ∧ S < 2 ^ gain.length ∧ p.length + onesN S = gain.length ∧ acc + l.getD S 0 = l.getD F 0 ∧ ∀ m x, AsgS (Wg gain) S p.length m x → AsgS (Wg gain) F 0 (p ++ m) (acc + x)) (fun q => ∃ p : List Nat, q = .go (p.map fun (k : Nat) => (k : Int), 0) ∧ AsgS (Wg gain) F 0 p (l.getD F 0)) (fun τ => τ.2.toNat) (fun τ ⟨p, S, acc, i0, i1, i2, i3, i4⟩ => by
    subst i0
    have hS5 : S < 512 := by omega
    obtain ⟨s1, s2⟩ := sub_table ⟨gain.length, by omega⟩ ⟨S, by omega⟩ i1
    dsimp only at s1 s2
    have hTS := hT S i1
    unfold assign_Best_B3
    dsimp only
    by_cases c : (0 : Int) < ((S : Nat) : Int)
    · have er : (((gain.length : Nat) : Int) - ((onesN S : Nat) : Int)).toNat = gain.length - onesN S := by omega
      have hpl : p.length = gain.length - onesN S := by omega
      have hpos : 0 < onesN S := by
        rcases Nat.eq_zero_or_pos (onesN S) with h | h
        · have := ones0 hS5 h; omega
        · exact h
      have vb : ∀ k, k < 9 → inS S k = true → -7000 ≤ l.getD (dropS S k) 0 ∧ l.getD (dropS S k) 0 ≤ 6000 := fun k hk hin => by
        have d := dropS_le S k
        obtain ⟨p, hp⟩ := (hT (dropS S k) (by omega)).has
        have b := hp.bnd hg.bnd
        have o := onesDrop hS5 hk hin
        rw [hp.len (by omega)] at b
        omega
      rw [if_pos c, ones_ok hS5, bind_some', ck_some (inI_small (by omega) (by omega))]
      obtain ⟨q, e, k, hk, hkin, hval, rfl⟩ := forC_or (f := assign_Best_B4 gain l (onesN S)) (s := (p.map fun (k : Nat) => (k : Int), (S : Int))) (n := gain.length) (k := 0) (fun j τ => τ = (p.map fun (k : Nat) => (k : Int), (S : Int)) ∧ ∀ k, k < j → k < 9 → inS S k = true → l.getD S 0 ≠ Wg gain (gain.length - onesN S) k + l.getD (dropS S k) 0) (fun q => ∃ k, k < 9 ∧ inS S k = true ∧ l.getD S 0 = Wg gain (gain.length - onesN S) k + l.getD (dropS S k) 0 ∧ q = .go ((p ++ [k]).map (fun (k : Nat) => (k : Int)), ((dropS S k : Nat) : Int))) ⟨rfl, fun k hk => absurd hk (by omega)⟩ (fun j τ _ hj ⟨j1, j2⟩ => by
        subst j1
        have hj9 : j < 9 := by omega
        unfold assign_Best_B4
        dsimp only
        rw [bitS hS5 hj9]
        cases hin : inS S j with
        | false =>
          rw [if_neg (show ¬ (false = true) from by decide), if_neg (by decide)]
          refine .inl ⟨_, rfl, rfl, fun k hk hk9 hkin => ?_⟩
          by_cases ek : k = j
          · subst ek; rw [hin] at hkin; exact Bool.noConfusion hkin
          · exact j2 k (by omega) hk9 hkin
        | true =>
          have d := dropS_lt hin
          have hWb := hg.bnd (gain.length - onesN S) j
          have hvb := vb j hj9 hin
          rw [if_pos rfl, if_pos rfl, ck_some (by omega), ck_some ⟨by omega, by omega⟩, er, hg.row _ (by omega), ck_some (by omega), dropS_eq hS5 hj9, ck_some (by omega), Int.toNat_natCast, Int.toNat_natCast, ck_some (inI_small (by omega) (by omega))]
          by_cases c2 : l.getD S 0 = (gain.getD (gain.length - onesN S) []).getD j 0 + l.getD (dropS S j) 0
          · rw [if_pos c2, ck_some (by simp; omega)]
            exact .inr (.inl ⟨_, rfl, j, hj9, hin, c2, by simp⟩)
          · rw [if_neg c2]
            refine .inl ⟨_, rfl, rfl, fun k hk hk9 hkin => ?_⟩
            by_cases ek : k = j
            · subst ek; exact c2
            · exact j2 k (by omega) hk9 hkin) (fun τ ⟨j1, j2⟩ => by
        exfalso
        obtain ⟨m, hm⟩ := hTS.has
        generalize hv : l.getD S 0 = v at *
        generalize hr : gain.length - onesN S = r at *
        cases hm with
        | nil => omega
        | @step _ _ k m v' hk hin hm' =>
          have hlt := s2 ⟨_, hk⟩ hin
          dsimp only at hlt
          have d := dropS_lt hin
          have o := onesDrop hS5 hk hin
          have hd := hT (dropS S k) (by omega)
          rw [show gain.length - onesN (dropS S k) = r + 1 by omega] at hd
          have a1 := hd.most _ _ hm'
          obtain ⟨m2, hm2⟩ := hd.has
          have a2 := hTS.most _ _ (.step hk hin hm2)
          exact j2 k (by omega) hk hin (by omega))
      have d := dropS_lt hkin
      have o := onesDrop hS5 hk hkin
      rw [e, bind_some']
      refine .inl ⟨_, rfl, ⟨p ++ [k], dropS S k, acc + Wg gain (gain.length - onesN S) k, rfl, by omega, by simp; omega, by omega, fun m x hm => ?_⟩, by dsimp only; omega⟩
      rw [List.append_assoc, Int.add_assoc]
      refine i4 _ _ ?_
      rw [hpl]
      refine .step hk hkin ?_
      rwa [List.length_append, List.length_cons, List.length_nil, hpl] at hm
    · rw [if_neg c]
      have e0 : S = 0 := by omega
      subst e0
      refine .inr (.inl ⟨_, rfl, p, rfl, ?_⟩)
      have h0 : l.getD 0 0 = 0 := by
        obtain ⟨m, hm⟩ := hTS.has
        generalize hv : l.getD 0 0 = v at *
        generalize hr : gain.length - onesN 0 = r at *
        cases hm with
        | nil => rfl
        | step hk hin _ => rw [in0] at hin; exact Bool.noConfusion hin
      have := i4 [] 0 (.nil _)
      rw [List.append_nil, show acc + 0 = l.getD F 0 by omega] at this
      exact this) (n := 1000000) (s := ([], ((2 ^ gain.length : Nat) : Int) - 1)) ⟨[], F, 0, by simp only [List.map_nil, Prod.mk.injEq, true_and]; omega, by omega, by simp only [List.length_nil]; omega, by omega, fun m x hm => by rw [List.nil_append, Int.zero_add]; exact hm⟩ (by dsimp only; omega)
  obtain ⟨p, rfl, hp⟩ := h
  exact ⟨p, e, hp⟩
structure BestP (gain : List (List Int)) (p : List Nat) (s : Int) : Prop where
  len : p.length = gain.length
  lt : ∀ i, i < gain.length → p.getD i 0 < gain.length
  inj : ∀ i j, i < gain.length → j < gain.length → p.getD i 0 = p.getD j 0 → i = j
  onto : ∀ k, k < gain.length → ∃ i, i < gain.length ∧ p.getD i 0 = k
  sum : s = tot (fun i => Wg gain i (p.getD i 0)) gain.length
  best : BestU gain.length fun i j => Wg gain i (p.getD j 0)
theorem assign_best : ∃ (p : List Nat) (s : Int), assign_Best_F gain = some (p.map fun (k : Nat) => (k : Int), s, 0) ∧ BestP gain p s := by
  have n6 := hg.n6
  obtain ⟨t1, t2, t3, t4, t5⟩ := fullA_table ⟨gain.length, by omega⟩
  dsimp only at t1 t2 t3 t4 t5
  obtain ⟨e, he, hiff⟩ := assign_check gain
  obtain rfl := hiff.2 hg
  obtain ⟨l, el, hl, hT⟩ := best_table hg
  obtain ⟨p, ep, hp⟩ := best_pass hg hl hT
  have hTF := hT (2 ^ gain.length - 1) (by omega)
  rw [t4, Nat.sub_self] at hTF
  have hF5 : 2 ^ gain.length - 1 < 512 := by omega
  refine ⟨p, l.getD (2 ^ gain.length - 1) 0, ?_, ?_⟩
  · unfold assign_Best_F
    rw [he, bind_some', if_neg (by decide), t1, ck_some (by omega), Int.toNat_natCast, el, bind_some']
    dsimp only
    rw [ck_some (inI_small (by omega) (by omega)), ep, bind_some']
    dsimp only
    rw [ck_some (by omega), show (((2 ^ gain.length : Nat) : Int) - 1).toNat = 2 ^ gain.length - 1 by omega]
  · have hlen := hp.len hF5
    rw [t4] at hlen
    obtain ⟨_, s2⟩ := sub_table ⟨gain.length, by omega⟩ ⟨2 ^ gain.length - 1, by omega⟩ (by dsimp only; omega)
    dsimp only at s2
    have hmem := hp.mem hF5
    have hlt : ∀ i, i < gain.length → p.getD i 0 < gain.length := fun i hi => by
      have hm : p.getD i 0 ∈ p := mem_getD (by omega)
      have h9 := hp.small _ hm
      exact s2 ⟨_, h9⟩ ((hmem _ h9).2 hm)
    have hnd := hp.nodup hF5
    have hinj : ∀ i j, i < gain.length → j < gain.length → p.getD i 0 = p.getD j 0 → i = j := fun i j hi hj e => by
      rw [List.getD_eq_getElem?_getD, List.getD_eq_getElem?_getD, List.getElem?_eq_getElem (by omega), List.getElem?_eq_getElem (by omega)] at e
      have hpw := List.pairwise_iff_getElem.1 hnd
      rcases Nat.lt_trichotomy i j with c | c | c
      · exact absurd (by simpa using e) (hpw i j _ _ c)
      · exact c
      · exact absurd (by simpa using e.symm) (hpw j i _ _ c)
    refine ⟨hlen, hlt, hinj, fun k hk => ?_, ?_, fun σ hI => ?_⟩
    · have hm := (hmem k (by omega)).1 (t5 ⟨k, by omega⟩ hk)
      obtain ⟨i, hi, e⟩ := getD_of_mem (d := 0) hm
      exact ⟨i, by omega, e⟩
    · have := hp.sum
      rw [hlen] at this
      rw [this]
      exact tot_congr fun i _ => by rw [Nat.zero_add]
    · have hs := hp.sum
      rw [hlen] at hs
      have e1 : tot (fun i => Wg gain i (p.getD i 0)) gain.length = l.getD (2 ^ gain.length - 1) 0 := by
        rw [hs]; exact tot_congr fun i _ => by rw [Nat.zero_add]
      obtain ⟨v, hv⟩ := AsgS.make (W := Wg gain) (l := (List.range gain.length).map fun i => p.getD (σ i) 0) (S := 2 ^ gain.length - 1) (r := 0) hF5 (by
        rw [List.nodup_iff_pairwise_ne, List.pairwise_map]
        refine List.Pairwise.imp_of_mem (fun {i j} hi hj hne e => ?_) (List.nodup_iff_pairwise_ne.1 List.nodup_range)
        have hi := List.mem_range.1 hi
        have hj := List.mem_range.1 hj
        exact hne (hI.inj i j hi hj (hinj _ _ (hI.lt i hi) (hI.lt j hj) e))) (fun k hk => by
        obtain ⟨i, hi, rfl⟩ := List.mem_map.1 hk
        have hi := List.mem_range.1 hi
        have := hlt _ (hI.lt i hi)
        have h9 : p.getD (σ i) 0 < 9 := Nat.lt_of_lt_of_le this (by omega)
        exact ⟨h9, t5 ⟨_, h9⟩ this⟩) (by simp [t4])
      have hm := hTF.most _ _ hv
      have hs2 := hv.sum
      rw [List.length_map, List.length_range] at hs2
      have e2 : v = tot (fun i => Wg gain i (p.getD (σ i) 0)) gain.length := by
        rw [hs2]
        exact tot_congr fun i hi => by
          rw [Nat.zero_add]; simp [List.getD_eq_getElem?_getD, hi]
      rw [← e2, e1]
      exact hm
end
end Go.Proofs.YthchdnemndolbaaDoor
