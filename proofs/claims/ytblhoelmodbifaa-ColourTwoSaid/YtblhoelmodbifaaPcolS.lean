/- Sums over all colourings. -/
import Derived.Test.YtblhoelmodbifaaPgraph
import Derived.Test.YtblhoelmodbifaaPlB
namespace Go.Proofs.Ytblhoelmodbifaa
open Go Go.Proofs.Ytblhoelmodbifaa.Sx
set_option linter.unusedVariables false
set_option linter.unusedSimpArgs false
def upd (c : Int → Int) (x v : Int) : Int → Int := fun y => if y = x then v else c y
theorem upd_same (c : Int → Int) (x v : Int) : upd c x v x = v := if_pos rfl
theorem upd_ne (c : Int → Int) {x y : Int} (v : Int) (h : y ≠ x) : upd c x v y = c y := if_neg h
theorem upd_comm (c : Int → Int) {x y : Int} (u v : Int) (h : x ≠ y) : upd (upd c x u) y v = upd (upd c y v) x u := by
  funext z
  unfold upd
  by_cases h1 : z = x
  · by_cases h2 : z = y
    · exact absurd (h1.symm.trans h2) h
    · rw [if_neg h2, if_pos h1, if_pos h1]
  · by_cases h2 : z = y
    · rw [if_pos h2, if_neg h1, if_pos h2]
    · rw [if_neg h2, if_neg h1, if_neg h1, if_neg h2]
/-- the sum over all values of some nodes -/
def SS (K : Nat) : List Int → ((Int → Int) → Int) → (Int → Int) → Int
  | [], F, c => F c
  | x :: xs, F, c => tot (fun v => SS K xs F (upd c x v)) K
section
variable {K : Nat} {F G : (Int → Int) → Int}
theorem SS_in : ∀ {xs : List Int} {c : Int → Int}, (∀ c' : Int → Int, (∀ x, x ∈ xs → 0 ≤ c' x ∧ c' x < K) → (∀ x, x ∉ xs → c' x = c x) → F c' = G c') → SS K xs F c = SS K xs G c
  | [], c, h => h c (fun x hx => absurd hx (by simp)) (fun _ _ => rfl)
  | x :: xs, c, h => by
    simp only [SS]
    refine tot_congr fun v hv => SS_in fun c' h1 h2 => h c' (fun y hy => ?_) (fun y hy => ?_)
    · by_cases hm : y ∈ xs
      · exact h1 y hm
      · rcases List.mem_cons.1 hy with rfl | hy
        · rw [h2 y hm, upd_same]; omega
        · exact absurd hy hm
    · have hy' : y ≠ x ∧ y ∉ xs := ⟨fun e => hy (by simp [e]), fun e => hy (by simp [e])⟩
      rw [h2 y hy'.2, upd_ne _ _ hy'.1]
theorem SS_congr {xs : List Int} {c : Int → Int} (h : ∀ c', F c' = G c') : SS K xs F c = SS K xs G c := SS_in fun c' _ _ => h c'
theorem SS_sub : ∀ {xs : List Int} {c : Int → Int}, SS K xs (fun c => F c - G c) c = SS K xs F c - SS K xs G c
  | [], _ => rfl
  | x :: xs, c => by
    simp only [SS]
    rw [← tot_sub]
    exact tot_congr fun v _ => SS_sub
theorem SS_mul (m : Int) : ∀ {xs : List Int} {c : Int → Int}, SS K xs (fun c => m * F c) c = m * SS K xs F c
  | [], _ => rfl
  | x :: xs, c => by
    simp only [SS]
    rw [← tot_mul]
    exact tot_congr fun v _ => SS_mul m
theorem SS_append : ∀ {xs ys : List Int} {c : Int → Int}, SS K (xs ++ ys) F c = SS K xs (fun c => SS K ys F c) c
  | [], _, _ => rfl
  | x :: xs, ys, c => by
    simp only [List.cons_append, SS]
    exact tot_congr fun v _ => SS_append
theorem SS_perm {xs ys : List Int} (h : xs.Perm ys) (hn : xs.Nodup) : ∀ {c : Int → Int}, SS K xs F c = SS K ys F c := by
  induction h with
  | nil => intro c; rfl
  | cons x _ ih =>
    intro c
    simp only [SS]
    exact tot_congr fun v _ => ih (List.nodup_cons.1 hn).2
  | swap x y l =>
    intro c
    have hne : y ≠ x := fun e => (List.nodup_cons.1 hn).1 (by simp [e])
    simp only [SS]
    rw [tot_swap]
    exact tot_congr fun u _ => tot_congr fun v _ => by rw [upd_comm _ _ _ hne]
  | trans h1 _ ih1 ih2 => intro c; rw [ih1 hn, ih2 (h1.nodup_iff.1 hn)]
theorem SS_nonneg (h : ∀ c, 0 ≤ F c) : ∀ {xs : List Int} {c : Int → Int}, 0 ≤ SS K xs F c
  | [], c => h c
  | x :: xs, c => tot_nonneg fun v _ => SS_nonneg h
theorem tot_more {f : Nat → Int} (h : ∀ i, 0 ≤ f i) {m n : Nat} (hmn : m ≤ n) : tot f m ≤ tot f n := by
  obtain ⟨d, rfl⟩ := Nat.exists_eq_add_of_le hmn
  rw [tot_split]
  have := tot_nonneg (f := fun i => f (m + i)) (n := d) fun i _ => h _
  omega
theorem SS_mono (h : ∀ c, 0 ≤ F c) {K' : Nat} (hK : K ≤ K') : ∀ {xs : List Int} {c : Int → Int}, SS K xs F c ≤ SS K' xs F c
  | [], _ => Int.le_refl _
  | x :: xs, c => by
    simp only [SS]
    refine Int.le_trans (tot_le fun v _ => SS_mono h hK) (tot_more (fun v => SS_nonneg h) hK)
theorem tot_pos {f : Nat → Int} (h : ∀ i, 0 ≤ f i) : ∀ {n : Nat}, 0 < tot f n ↔ ∃ i, i < n ∧ 0 < f i
  | 0 => by simp [tot]
  | n + 1 => by
    rw [tot]
    have h1 := tot_nonneg (f := f) (n := n) fun i _ => h i
    have h2 := h n
    constructor
    · intro hp
      by_cases h3 : 0 < f n
      · exact ⟨n, by omega, h3⟩
      · obtain ⟨i, hi, hf⟩ := (tot_pos h).1 (show 0 < tot f n by omega)
        exact ⟨i, by omega, hf⟩
    · rintro ⟨i, hi, hf⟩
      by_cases e : i = n
      · subst e; omega
      · have := (tot_pos h (n := n)).2 ⟨i, by omega, hf⟩
        omega
theorem SS_pos (h : ∀ c, 0 ≤ F c) : ∀ {xs : List Int} {c : Int → Int}, 0 < SS K xs F c ↔ ∃ c' : Int → Int, (∀ x, x ∈ xs → 0 ≤ c' x ∧ c' x < K) ∧ (∀ x, x ∉ xs → c' x = c x) ∧ 0 < F c'
  | [], c => ⟨fun hp => ⟨c, fun x hx => absurd hx (by simp), fun _ _ => rfl, hp⟩, fun ⟨c', _, h2, h3⟩ => by
    have : c' = c := funext fun x => h2 x (by simp)
    rw [← this]; exact h3⟩
  | x :: xs, c => by
    simp only [SS]
    rw [tot_pos fun v => SS_nonneg h]
    constructor
    · rintro ⟨v, hv, hp⟩
      obtain ⟨c', h1, h2, h3⟩ := (SS_pos h).1 hp
      refine ⟨c', fun y hy => ?_, fun y hy => ?_, h3⟩
      · by_cases hm : y ∈ xs
        · exact h1 y hm
        · rcases List.mem_cons.1 hy with rfl | hy
          · rw [h2 y hm, upd_same]; omega
          · exact absurd hy hm
      · have hy' : y ≠ x ∧ y ∉ xs := ⟨fun e => hy (by simp [e]), fun e => hy (by simp [e])⟩
        rw [h2 y hy'.2, upd_ne _ _ hy'.1]
    · rintro ⟨c', h1, h2, h3⟩
      have hx := h1 x (by simp)
      refine ⟨(c' x).toNat, by omega, (SS_pos h).2 ⟨c', fun y hy => h1 y (by simp [hy]), fun y hy => ?_, h3⟩⟩
      by_cases e : y = x
      · rw [e, upd_same]; omega
      · rw [upd_ne _ _ e]; exact h2 y (by simp [e, hy])
theorem SS_const (m : Int) : ∀ {xs : List Int} {c : Int → Int}, SS K xs (fun _ => m) c = K ^ xs.length * m
  | [], _ => by simp [SS]
  | x :: xs, c => by
    simp only [SS]
    rw [tot_congr fun v _ => SS_const m, tot_const, List.length_cons, Int.pow_succ]
    rw [← Int.mul_assoc, Int.mul_comm (K : Int)]
theorem SS_le (h : ∀ c, F c ≤ G c) : ∀ {xs : List Int} {c : Int → Int}, SS K xs F c ≤ SS K xs G c
  | [], c => h c
  | x :: xs, c => tot_le fun v _ => SS_le h
end
/-! ### proper colourings -/
def pr (l : List Arc) (c : Int → Int) : Bool := l.all fun a => decide (c a.f ≠ c a.t)
def FF (l : List Arc) (c : Int → Int) : Int := if pr l c = true then 1 else 0
theorem FF_01 (l : List Arc) (c : Int → Int) : 0 ≤ FF l c ∧ FF l c ≤ 1 := by unfold FF; split <;> omega
theorem FF_nil (c : Int → Int) : FF [] c = 1 := rfl
theorem FF_cons (a : Arc) (l : List Arc) (c : Int → Int) : FF (a :: l) c = if c a.f = c a.t then 0 else FF l c := by
  unfold FF pr
  rw [List.all_cons]
  by_cases h : c a.f = c a.t
  · rw [if_pos h]; simp [h]
  · rw [if_neg h]; simp [h]
theorem FF_append (l m : List Arc) (c : Int → Int) : FF (l ++ m) c = FF l c * FF m c := by
  induction l with
  | nil => rw [FF_nil, List.nil_append]; omega
  | cons a l ih =>
    rw [List.cons_append, FF_cons, FF_cons, ih]
    split <;> simp
theorem FF_pos {l : List Arc} {c : Int → Int} : 0 < FF l c ↔ ∀ a, a ∈ l → c a.f ≠ c a.t := by
  have : pr l c = true ↔ ∀ a, a ∈ l → c a.f ≠ c a.t := by
    unfold pr; rw [List.all_eq_true]
    exact ⟨fun h a ha => of_decide_eq_true (h a ha), fun h a ha => decide_eq_true (h a ha)⟩
  unfold FF
  split
  · rename_i h; exact ⟨fun _ => this.1 h, fun _ => by omega⟩
  · rename_i h; exact ⟨fun h => absurd h (by omega), fun hh => absurd (this.2 hh) h⟩
theorem FF_agree {l : List Arc} {c c' : Int → Int} (h : ∀ a, a ∈ l → c a.f = c' a.f ∧ c a.t = c' a.t) : FF l c = FF l c' := by
  induction l with
  | nil => rfl
  | cons a l ih =>
    rw [FF_cons, FF_cons, ih fun b hb => h b (by simp [hb]), (h a (by simp)).1, (h a (by simp)).2]
def vars (n : Nat) : List Int := (List.range n).map fun (i : Nat) => (i : Int)
theorem vars_succ (n : Nat) : vars (n + 1) = vars n ++ [(n : Int)] := by simp [vars, List.range_succ]
theorem vars_len (n : Nat) : (vars n).length = n := by simp [vars]
theorem mem_vars {n : Nat} {x : Int} : x ∈ vars n ↔ 0 ≤ x ∧ x < n := by
  simp only [vars, List.mem_map, List.mem_range]
  constructor
  · rintro ⟨i, hi, rfl⟩; omega
  · rintro ⟨h1, h2⟩; exact ⟨x.toNat, by omega, by omega⟩
theorem vars_nodup (n : Nat) : (vars n).Nodup := by
  induction n with
  | zero => exact List.nodup_nil
  | succ n ih =>
    rw [vars_succ, List.nodup_append]
    exact ⟨ih, by simp, fun a ha b hb e => by
      obtain rfl := List.mem_singleton.1 hb
      have := mem_vars.1 ha
      omega⟩
/-- how many colourings -/
def colN (K n : Nat) (l : List Arc) : Int := SS K (vars n) (FF l) (fun _ => 0)
theorem colN_nonneg (K n : Nat) (l : List Arc) : 0 ≤ colN K n l := SS_nonneg fun c => (FF_01 l c).1
theorem colN_nil (K n : Nat) : colN K n [] = (K : Int) ^ n := by
  unfold colN
  have e := SS_congr (K := K) (F := FF []) (G := fun _ => 1) (xs := vars n) (c := fun _ => 0) fun c => rfl
  rw [e, SS_const, vars_len, Int.mul_one]
theorem colN_le (K n : Nat) (l : List Arc) : colN K n l ≤ (K : Int) ^ n := by
  have := SS_le (K := K) (F := FF l) (G := fun _ => 1) (fun c => (FF_01 l c).2) (xs := vars n) (c := fun _ => 0)
  rw [SS_const, vars_len, Int.mul_one] at this
  exact this
theorem colN_mono {K K' : Nat} (h : K ≤ K') (n : Nat) (l : List Arc) : colN K n l ≤ colN K' n l := SS_mono (fun c => (FF_01 l c).1) h
theorem colN_loop (K n : Nat) {a : Arc} (h : a.f = a.t) (l : List Arc) : colN K n (a :: l) = 0 := by
  unfold colN
  rw [SS_congr (G := fun _ => 0) fun c => by rw [FF_cons, if_pos (by rw [h])], SS_const, Int.mul_zero]
def mergeI (lo hi n k : Int) : Int := if k = hi then lo else if k = n - 1 then hi else k
def mergeA (lo hi n : Int) (b : Arc) : Arc := ⟨mergeI lo hi n b.f, mergeI lo hi n b.t, 0⟩
theorem FF_map (m : Int → Int) (f : Arc → Arc) (hf : ∀ a, (f a).f = m a.f ∧ (f a).t = m a.t) (l : List Arc) (c : Int → Int) : FF (l.map f) c = FF l fun x => c (m x) := by
  induction l with
  | nil => rfl
  | cons a l ih => rw [List.map_cons, FF_cons, FF_cons, ih, (hf a).1, (hf a).2]
theorem pick_eq {K : Nat} {u : Int} (h : 0 ≤ u ∧ u < K) (g : Int → Int) : tot (fun v => if u = (v : Int) then g v else 0) K = g u := by
  rw [tot_single (k := u.toNat) (by omega) fun i _ hi => if_neg (by omega), if_pos (by omega), show ((u.toNat : Nat) : Int) = u by omega]
/-- where both ends are alike: one node less -/
theorem col_merge {K n : Nat} {lo hi : Int} {r : List Arc} (h0 : 0 ≤ lo) (h1 : lo < hi) (h2 : hi < (n : Int) + 1) :
    SS K (vars (n + 1)) (fun c => if c lo = c hi then FF r c else 0) (fun _ => 0) = colN K n (r.map (mergeA lo hi ((n : Int) + 1))) := by
  have hR : colN K n (r.map (mergeA lo hi ((n : Int) + 1))) = SS K (vars n) (fun c => FF r fun x => c (mergeI lo hi ((n : Int) + 1) x)) (fun _ => 0) := SS_congr fun c => FF_map _ _ (fun a => ⟨rfl, rfl⟩) r c
  rw [hR, vars_succ]
  by_cases e : hi = (n : Int)
  · subst e
    rw [SS_append]
    refine SS_in fun c hc _ => ?_
    simp only [SS]
    have hlo := hc lo (mem_vars.2 ⟨h0, by omega⟩)
    have e1 : tot (fun v => if upd c (n : Int) (v : Int) lo = upd c (n : Int) (v : Int) (n : Int) then FF r (upd c (n : Int) (v : Int)) else 0) K = tot (fun v => if c lo = (v : Int) then FF r (upd c (n : Int) (v : Int)) else 0) K := tot_congr fun v _ => by
      rw [upd_same, upd_ne _ _ (by omega)]
    rw [e1, pick_eq hlo fun v => FF r (upd c (n : Int) v)]
    congr 1
    funext x
    unfold mergeI upd
    by_cases q : x = (n : Int)
    · rw [if_pos q, if_pos q]
    · rw [if_neg q, if_neg q, if_neg (by omega)]
  · have hm : hi ∈ vars n := mem_vars.2 ⟨by omega, by omega⟩
    have hp := List.perm_cons_erase hm
    have hnd := vars_nodup n
    have hE : ∀ x, x ∈ (vars n).erase hi ↔ x ≠ hi ∧ x ∈ vars n := fun x => hnd.mem_erase_iff
    have hp2 : (vars n).Perm ((vars n).erase hi ++ [hi]) := hp.trans (List.perm_append_singleton hi _).symm
    rw [SS_perm (hp2.append_right [(n : Int)]) (by rw [← vars_succ]; exact vars_nodup _)]
    rw [SS_perm (xs := vars n) hp2 hnd]
    rw [List.append_assoc, SS_append, SS_append]
    refine SS_in fun c hc _ => ?_
    have hlo := hc lo ((hE lo).2 ⟨by omega, mem_vars.2 ⟨h0, by omega⟩⟩)
    have sw : SS K ([hi] ++ [(n : Int)]) (fun c => if c lo = c hi then FF r c else 0) c = SS K ([(n : Int)] ++ [hi]) (fun c => if c lo = c hi then FF r c else 0) c :=
      SS_perm (List.Perm.swap _ _ _) (by simp [e])
    rw [sw]
    simp only [List.cons_append, List.nil_append, SS]
    refine tot_congr fun v _ => ?_
    have e1 : tot (fun u => if upd (upd c (n : Int) (v : Int)) hi (u : Int) lo = upd (upd c (n : Int) (v : Int)) hi (u : Int) hi then FF r (upd (upd c (n : Int) (v : Int)) hi (u : Int)) else 0) K = tot (fun u => if c lo = (u : Int) then FF r (upd (upd c (n : Int) (v : Int)) hi (u : Int)) else 0) K := tot_congr fun u _ => by
      rw [upd_same, upd_ne _ _ (by omega), upd_ne _ _ (by omega)]
    rw [e1, pick_eq hlo fun u => FF r (upd (upd c (n : Int) (v : Int)) hi u)]
    congr 1
    funext x
    unfold mergeI upd
    by_cases q1 : x = hi
    · rw [if_pos q1, if_pos q1, if_neg (by omega)]
    · rw [if_neg q1, if_neg q1]
      by_cases q2 : x = (n : Int)
      · rw [if_pos q2, if_pos (by omega)]
      · rw [if_neg q2]
        have q3 : ¬ x = (n : Int) + 1 - 1 := by omega
        rw [if_neg q3, if_neg q1]
/-- an arc more -/
theorem colN_cons {K n : Nat} {a : Arc} {r : List Arc} (hne : a.f ≠ a.t) (f0 : 0 ≤ a.f) (f1 : a.f < (n : Int) + 1) (t0 : 0 ≤ a.t) (t1 : a.t < (n : Int) + 1) :
    colN K (n + 1) (a :: r) = colN K (n + 1) r - colN K n (r.map (mergeA (min a.f a.t) (max a.f a.t) ((n : Int) + 1))) := by
  rw [← col_merge (by omega) (by omega) (by omega)]
  unfold colN
  rw [← SS_sub]
  refine SS_congr fun c => ?_
  rw [FF_cons]
  rcases Int.le_total a.f a.t with h | h
  · rw [Int.min_eq_left h, Int.max_eq_right h]
    by_cases e : c a.f = c a.t
    · rw [if_pos e, if_pos e]; omega
    · rw [if_neg e, if_neg e]; omega
  · rw [Int.min_eq_right h, Int.max_eq_left h]
    by_cases e : c a.f = c a.t
    · rw [if_pos e, if_pos e.symm]; omega
    · rw [if_neg e, if_neg (fun z => e z.symm)]; omega
end Go.Proofs.Ytblhoelmodbifaa
