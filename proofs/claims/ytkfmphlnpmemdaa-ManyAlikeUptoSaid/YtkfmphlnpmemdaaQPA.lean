import Derived.Test.YtkfmphlnpmemdaaQDat
import Derived.Test.YtkfmphlnpmemdaaQDA
set_option linter.unusedVariables false
set_option linter.unusedSimpArgs false
namespace Go.Proofs.Ytkfmphlnpmemdaa
open Go Go.Proofs.Ytkfmphlnpmemdaa.Sx
@[simp] theorem eld_int : (El.d : Int) = 0 := rfl
@[simp] theorem eld_bool : (El.d : Bool) = false := rfl
@[simp] theorem eld_arc : (El.d : Arc) = ⟨0, 0, 0⟩ := rfl
@[simp] theorem eld_list {α : Type} [El α] : (El.d : List α) = [] := rfl
theorem ck_some {α : Type} {p : Prop} [Decidable p] {k : Option α} (h : p) : ck p k = k := if_pos h
@[simp] theorem bind_some' {α β : Type} (a : α) (f : α → Option β) : (some a).bind f = f a := rfl
section
variable {σ ρ : Type}
theorem forN_inv {f : Nat → σ → Option σ} (Inv : Nat → σ → Prop) : ∀ {n k : Nat} {s : σ}, Inv k s → (∀ j s, k ≤ j → j < k + n → Inv j s → ∃ s', f j s = some s' ∧ Inv (j + 1) s') → ∃ s', forN f n k s = some s' ∧ Inv (k + n) s'
  | 0, k, s, h0, _ => ⟨s, rfl, h0⟩
  | n + 1, k, s, h0, hs => by
    obtain ⟨s1, h1, h2⟩ := hs k s (Nat.le_refl _) (by omega) h0
    obtain ⟨s2, h3, h4⟩ := forN_inv (f := f) Inv (n := n) (k := k + 1) h2 fun j s hj hk => hs j s (by omega) (by omega)
    exact ⟨s2, by rw [forN, h1]; exact h3, by rw [show k + (n + 1) = k + 1 + n by omega]; exact h4⟩
theorem forC_inv {f : Nat → σ → Option (Ct σ ρ)} (Inv : Nat → σ → Prop) : ∀ {n k : Nat} {s : σ}, Inv k s → (∀ j s, k ≤ j → j < k + n → Inv j s → ∃ s', f j s = some (.go s') ∧ Inv (j + 1) s') → ∃ s', forC f n k s = some (.go s') ∧ Inv (k + n) s'
  | 0, k, s, h0, _ => ⟨s, rfl, h0⟩
  | n + 1, k, s, h0, hs => by
    obtain ⟨s1, h1, h2⟩ := hs k s (Nat.le_refl _) (by omega) h0
    obtain ⟨s2, h3, h4⟩ := forC_inv (f := f) Inv (n := n) (k := k + 1) h2 fun j s hj hk => hs j s (by omega) (by omega)
    exact ⟨s2, by rw [forC, h1]; exact h3, by rw [show k + (n + 1) = k + 1 + n by omega]; exact h4⟩
theorem forC_or {f : Nat → σ → Option (Ct σ ρ)} (Inv : Nat → σ → Prop) (Q : Ex σ ρ → Prop) : ∀ {n k : Nat} {s : σ}, Inv k s →
    (∀ j s, k ≤ j → j < k + n → Inv j s → (∃ s', f j s = some (.go s') ∧ Inv (j + 1) s') ∨ (∃ s', f j s = some (.brk s') ∧ Q (.go s')) ∨ ∃ r, f j s = some (.ret r) ∧ Q (.ret r)) →
    (∀ s, Inv (k + n) s → Q (.go s)) → ∃ q, forC f n k s = some q ∧ Q q
  | 0, k, s, h0, _, hq => ⟨.go s, rfl, hq s h0⟩
  | n + 1, k, s, h0, hs, hq => by
    rcases hs k s (Nat.le_refl _) (by omega) h0 with ⟨s1, h1, h2⟩ | ⟨s1, h1, h2⟩ | ⟨r, h1, h2⟩
    · obtain ⟨q, h3, h4⟩ := forC_or (f := f) Inv Q (n := n) (k := k + 1) h2 (fun j s hj hk => hs j s (by omega) (by omega)) (fun s h => hq s (by rw [show k + (n + 1) = k + 1 + n by omega]; exact h))
      exact ⟨q, by rw [forC, h1]; exact h3, h4⟩
    · exact ⟨.go s1, by rw [forC, h1]; rfl, h2⟩
    · exact ⟨.ret r, by rw [forC, h1]; rfl, h2⟩
theorem loopC_or {f : σ → Option (Ct σ ρ)} (Inv : σ → Prop) (Q : Ex σ ρ → Prop) (μ : σ → Nat)
    (hs : ∀ s, Inv s → (∃ s', f s = some (.go s') ∧ Inv s' ∧ μ s' < μ s) ∨ (∃ s', f s = some (.brk s') ∧ Q (.go s')) ∨ ∃ r, f s = some (.ret r) ∧ Q (.ret r)) : ∀ {n : Nat} {s : σ}, Inv s → μ s < n → ∃ q, loopC f n s = some q ∧ Q q
  | 0, s, _, h => absurd h (by omega)
  | n + 1, s, h0, hn => by
    rcases hs s h0 with ⟨s1, h1, h2, h3⟩ | ⟨s1, h1, h2⟩ | ⟨r, h1, h2⟩
    · obtain ⟨q, h4, h5⟩ := loopC_or Inv Q μ hs (n := n) h2 (by omega)
      exact ⟨q, by rw [loopC, h1]; exact h4, h5⟩
    · exact ⟨.go s1, by rw [loopC, h1]; rfl, h2⟩
    · exact ⟨.ret r, by rw [loopC, h1]; rfl, h2⟩
theorem drop_getD {α : Type} {l : List α} {k : Nat} (d : α) (h : k < l.length) : l.drop k = l.getD k d :: l.drop (k + 1) := by
  rw [List.drop_eq_getElem_cons h]; simp [h]
theorem forN_listG {α : Type} {f : Nat → σ → Option σ} (xs : List α) (d : α) (g : σ → α → σ) (Inv : Nat → σ → Prop) : ∀ {n k : Nat} {s : σ}, k + n = xs.length → Inv k s →
    (∀ j s, j < xs.length → Inv j s → f j s = some (g s (xs.getD j d)) ∧ Inv (j + 1) (g s (xs.getD j d))) → forN f n k s = some ((xs.drop k).foldl g s) ∧ Inv xs.length ((xs.drop k).foldl g s)
  | 0, k, s, hk, h0, _ => by rw [List.drop_eq_nil_of_le (by omega)]; exact ⟨rfl, by rw [← hk]; exact h0⟩
  | n + 1, k, s, hk, h0, hs => by
    obtain ⟨h1, h2⟩ := hs k s (by omega) h0
    rw [drop_getD d (by omega), List.foldl_cons, forN, h1]
    exact forN_listG xs d g Inv (n := n) (k := k + 1) (by omega) h2 hs
theorem forN_list {α : Type} {f : Nat → σ → Option σ} (xs : List α) (d : α) (g : σ → α → σ) (Inv : Nat → σ → Prop) {s : σ} (h0 : Inv 0 s)
    (hs : ∀ j s, j < xs.length → Inv j s → f j s = some (g s (xs.getD j d)) ∧ Inv (j + 1) (g s (xs.getD j d))) : forN f xs.length 0 s = some (xs.foldl g s) ∧ Inv xs.length (xs.foldl g s) :=
  forN_listG xs d g Inv (n := xs.length) (k := 0) (by omega) h0 hs
end
theorem mem_getD {α : Type} {l : List α} {k : Nat} {d : α} (h : k < l.length) : l.getD k d ∈ l := by
  rw [List.getD_eq_getElem?_getD, List.getElem?_eq_getElem h]; exact List.getElem_mem h
theorem getD_of_mem {α : Type} {l : List α} {a d : α} (h : a ∈ l) : ∃ k, k < l.length ∧ l.getD k d = a := by
  obtain ⟨k, hk, e⟩ := List.mem_iff_getElem.1 h
  exact ⟨k, hk, by simp [List.getD_eq_getElem?_getD, hk, e]⟩
theorem eq_of_getD {α : Type} {d : α} {l l' : List α} (hl : l.length = l'.length) (h : ∀ i, i < l.length → l.getD i d = l'.getD i d) : l = l' := by
  refine List.ext_getElem hl fun i h1 h2 => ?_
  have := h i h1
  simpa [List.getD_eq_getElem?_getD, h1, h2] using this
theorem getD_set' {α : Type} (xs : List α) (e e' : Nat) (v z : α) : (xs.set e v).getD e' z = if e' = e ∧ e < xs.length then v else xs.getD e' z := by
  simp only [List.getD_eq_getElem?_getD, List.getElem?_set]
  by_cases he : e = e'
  · subst he
    by_cases h : e < xs.length
    · simp [h]
    · simp [h, List.getElem?_eq_none (by omega : xs.length ≤ e)]
  · simp [he, Ne.symm he]
@[simp] theorem getD_replicate' {α : Type} (n i : Nat) (v z : α) : (List.replicate n v).getD i z = if i < n then v else z := by
  simp only [List.getD_eq_getElem?_getD, List.getElem?_replicate]
  split <;> simp
theorem forC_all {ρ : Type} {f : Nat → Unit → Option (Ct Unit ρ)} {n k : Nat} (h : ∀ j, k ≤ j → j < k + n → f j () = some (.go ())) : forC f n k () = some (.go ()) := by
  obtain ⟨s, h1, _⟩ := forC_inv (f := f) (fun _ _ => True) (n := n) (k := k) (s := ()) trivial fun j s h1 h2 _ => ⟨(), h j h1 h2, trivial⟩
  exact h1
theorem inI_small {x : Int} (h1 : -1000000000 ≤ x) (h2 : x ≤ 1000000000) : InI x := by unfold InI; omega
def tot (f : Nat → Int) : Nat → Int
  | 0 => 0
  | n + 1 => tot f n + f n
theorem tot_congr {f g : Nat → Int} : ∀ {n : Nat}, (∀ i, i < n → f i = g i) → tot f n = tot g n
  | 0, _ => rfl
  | n + 1, h => by rw [tot, tot, tot_congr fun i hi => h i (by omega), h n (by omega)]
theorem tot_add (f g : Nat → Int) : ∀ n : Nat, tot (fun i => f i + g i) n = tot f n + tot g n
  | 0 => rfl
  | n + 1 => by simp only [tot, tot_add f g n]; omega
theorem tot_sub (f g : Nat → Int) : ∀ n : Nat, tot (fun i => f i - g i) n = tot f n - tot g n
  | 0 => rfl
  | n + 1 => by simp only [tot, tot_sub f g n]; omega
theorem tot_zero {f : Nat → Int} : ∀ {n : Nat}, (∀ i, i < n → f i = 0) → tot f n = 0
  | 0, _ => rfl
  | n + 1, h => by rw [tot, tot_zero fun i hi => h i (by omega), h n (by omega)]; rfl
theorem tot_single {f : Nat → Int} {k : Nat} : ∀ {n : Nat}, k < n → (∀ i, i < n → i ≠ k → f i = 0) → tot f n = f k
  | 0, h, _ => absurd h (by omega)
  | n + 1, h, hf => by
    by_cases hk : k = n
    · subst hk; rw [tot, tot_zero fun i hi => hf i (by omega) (by omega)]; omega
    · rw [tot, tot_single (n := n) (by omega) (fun i hi hne => hf i (by omega) hne), hf n (by omega) (by omega)]; omega
theorem tot_le {f g : Nat → Int} : ∀ {n : Nat}, (∀ i, i < n → f i ≤ g i) → tot f n ≤ tot g n
  | 0, _ => Int.le_refl _
  | n + 1, h => by
    have := tot_le (n := n) fun i hi => h i (by omega)
    have := h n (by omega)
    simp only [tot]; omega
theorem tot_nonneg {f : Nat → Int} {n : Nat} (h : ∀ i, i < n → 0 ≤ f i) : 0 ≤ tot f n := by
  have := tot_le (f := fun _ => 0) (g := f) (n := n) h
  rwa [tot_zero (f := fun _ => 0) (fun _ _ => rfl)] at this
theorem tot_const (c : Int) : ∀ n : Nat, tot (fun _ => c) n = n * c
  | 0 => by simp [tot]
  | n + 1 => by rw [tot, tot_const c n, Int.natCast_succ, Int.add_mul]; omega
theorem tot_eq_each {f g : Nat → Int} : ∀ {n : Nat}, (∀ i, i < n → f i ≤ g i) → tot f n = tot g n → ∀ i, i < n → f i = g i
  | 0, _, _, i, hi => absurd hi (by omega)
  | n + 1, h, he, i, hi => by
    have h1 := tot_le (n := n) fun i hi => h i (by omega)
    have h2 := h n (by omega)
    simp only [tot] at he
    by_cases e : i = n
    · subst e; omega
    · exact tot_eq_each (n := n) (fun i hi => h i (by omega)) (by omega) i (by omega)
def checkL (n least : Int) : List Arc → Int
  | [] => 0
  | a :: r => if a.f < 0 ∨ n ≤ a.f ∨ a.t < 0 ∨ n ≤ a.t then 4 else if a.c < least ∨ 10000 < a.c then 1 else checkL n least r
def checkF (g : Graph) (least : Int) : Int := if g.n < 1 ∨ 12 < g.n then 1 else if 60 < g.as.length then 2 else checkL g.n least g.as
structure Good (n least : Int) (a : Arc) : Prop where
  f0 : 0 ≤ a.f
  f1 : a.f < n
  t0 : 0 ≤ a.t
  t1 : a.t < n
  c0 : least ≤ a.c
  c1 : a.c ≤ 10000
structure OkL (g : Graph) (least : Int) : Prop where
  n0 : 1 ≤ g.n
  n1 : g.n ≤ 12
  len : g.as.length ≤ 60
  arc : ∀ a, a ∈ g.as → Good g.n least a
abbrev Ok (g : Graph) : Prop := OkL g (-10000)
theorem checkL_ok (n least : Int) : ∀ l : List Arc, checkL n least l = 0 ↔ ∀ a, a ∈ l → Good n least a
  | [] => by simp [checkL]
  | a :: r => by
    rw [checkL]
    constructor
    · intro h
      split at h
      · omega
      · split at h
        · omega
        · rename_i h1 h2
          intro b hb
          rcases List.mem_cons.1 hb with rfl | hb
          · exact ⟨by omega, by omega, by omega, by omega, by omega, by omega⟩
          · exact (checkL_ok n least r).1 h b hb
    · intro h
      have ha := h a (by simp)
      have := ha.f0; have := ha.f1; have := ha.t0; have := ha.t1; have := ha.c0; have := ha.c1
      rw [if_neg (by omega), if_neg (by omega)]
      exact (checkL_ok n least r).2 fun b hb => h b (by simp [hb])
theorem checkF_ok (g : Graph) (least : Int) : checkF g least = 0 ↔ OkL g least := by
  unfold checkF
  constructor
  · intro h
    split at h
    · omega
    · split at h
      · omega
      · exact ⟨by omega, by omega, by omega, (checkL_ok _ _ _).1 h⟩
  · intro h
    have := h.n0; have := h.n1; have := h.len
    rw [if_neg (by omega), if_neg (by omega)]
    exact (checkL_ok _ _ _).2 h.arc
theorem check_loop (g : Graph) (least : Int) : ∀ n k, k + n = g.as.length →
    (forC (graph_check_B1 g least) n k () = some (.go ()) ∧ checkL g.n least (g.as.drop k) = 0) ∨ (∃ e, forC (graph_check_B1 g least) n k () = some (.ret e) ∧ checkL g.n least (g.as.drop k) = e)
  | 0, k, h => .inl ⟨rfl, by rw [List.drop_eq_nil_of_le (by omega)]; rfl⟩
  | n + 1, k, h => by
    have ih := check_loop g least n (k + 1) (by omega)
    rw [drop_getD El.d (show k < g.as.length by omega), checkL, forC]
    unfold graph_check_B1
    generalize g.as.getD k El.d = a
    by_cases h1 : a.f < 0
    · right; exact ⟨4, by simp [h1], by simp [h1]⟩
    by_cases h2 : g.n ≤ a.f
    · right; exact ⟨4, by simp [h1, h2], by simp [h2]⟩
    by_cases h3 : a.t < 0
    · right; exact ⟨4, by simp [h1, h2, h3], by simp [h3]⟩
    by_cases h4 : g.n ≤ a.t
    · right; exact ⟨4, by simp [h1, h2, h3, h4], by simp [h4]⟩
    by_cases h5 : a.c < least
    · right; exact ⟨1, by simp [h1, h2, h3, h4, h5], by simp [h1, h2, h3, h4, h5]⟩
    by_cases h6 : 10000 < a.c
    · right; exact ⟨1, by simp [h1, h2, h3, h4, h5, h6], by simp [h1, h2, h3, h4, h5, h6]⟩
    rcases ih with ⟨i1, i2⟩ | ⟨e, i1, i2⟩
    · left; exact ⟨by simp only [h1, h2, h3, h4, h5, h6, if_false, bind_some']; exact i1, by simp [h1, h2, h3, h4, h5, h6, i2]⟩
    · right; exact ⟨e, by simp only [h1, h2, h3, h4, h5, h6, if_false, bind_some']; exact i1, by simp [h1, h2, h3, h4, h5, h6, i2]⟩
theorem check_eq (g : Graph) (least : Int) : graph_check_F g least = some (checkF g least) := by
  unfold graph_check_F checkF
  by_cases h1 : g.n < 1
  · simp [h1]
  by_cases h2 : 12 < g.n
  · simp [h1, h2]
  by_cases h3 : 60 < g.as.length
  · rw [if_neg h1, if_neg h2, if_pos (by omega), if_neg (by omega), if_pos h3]
  · rw [if_neg h1, if_neg h2, if_neg (by omega), if_neg (by omega), if_neg h3]
    rcases check_loop g least g.as.length 0 (by omega) with ⟨i1, i2⟩ | ⟨e, i1, i2⟩
    · rw [i1]; rw [List.drop_zero] at i2; rw [i2]; rfl
    · rw [i1]; rw [List.drop_zero] at i2; rw [i2]; rfl
theorem check0_eq (g : Graph) : graph_Check_F g = some (checkF g 0) := by
  unfold graph_Check_F; rw [check_eq]; rfl
theorem clone_eq {l : List Arc} (h : l.length ≤ 1000000000) : slices_Clone_Arc_F l = some l := by
  unfold slices_Clone_Arc_F; rw [ck_some (by omega)]; rfl
theorem arc_ext {a b : Arc} : (a.f = b.f ∧ a.t = b.t ∧ a.c = b.c) ↔ a = b := by cases a; cases b; simp
theorem equalArcs_eq (l m : List Arc) : slices_Equal_Arc_F l m = some (decide (l = m)) := by
  unfold slices_Equal_Arc_F
  by_cases hl : l.length = m.length
  · rw [if_neg (by omega)]
    have : ∃ q, forC (slices_Equal_Arc_B1 l m) l.length 0 () = some q ∧ (∀ x, q = .ret x → x = decide (l = m)) ∧ (q = .go () → l = m) := by
      refine forC_or (fun k _ => ∀ i, i < k → l.getD i El.d = m.getD i El.d) (fun q => (∀ x, q = .ret x → x = decide (l = m)) ∧ (q = .go () → l = m)) (fun i h => absurd h (by omega)) (fun j s _ hj hI => ?_) fun s h => ⟨fun x e => (by cases e), fun _ => eq_of_getD hl fun i hi => h i (by omega)⟩
      unfold slices_Equal_Arc_B1
      rw [ck_some (by omega)]
      by_cases he : l.getD j El.d = m.getD j El.d
      · left
        refine ⟨(), by rw [if_neg]; exact fun h => h (arc_ext.2 he), fun i hi => ?_⟩
        by_cases h : i = j
        · subst h; exact he
        · exact hI i (by omega)
      · right; right
        refine ⟨false, by rw [if_pos]; exact fun h => he (arc_ext.1 h), fun x e => ?_, fun e => by cases e⟩
        injection e with e; subst e
        exact (decide_eq_false fun e => he (by rw [e])).symm
    obtain ⟨q, h1, h2, h3⟩ := this
    rw [h1]
    cases q with
    | go s => simp [h3 rfl]
    | ret x => simp [h2 x rfl]
  · rw [if_pos (by omega), decide_eq_false fun e => hl (by rw [e])]
theorem contains_eq (l : List Int) (v : Int) : slices_Contains_int_F l v = some (decide (v ∈ l)) := by
  unfold slices_Contains_int_F slices_Index_int_F
  have : ∃ q, forC (slices_Index_int_B1 l v) l.length 0 () = some q ∧ (∀ x, q = .ret x → 0 ≤ x ∧ v ∈ l) ∧ (q = .go () → v ∉ l) := by
    refine forC_or (fun k _ => ∀ i, i < k → l.getD i 0 ≠ v) (fun q => (∀ x, q = .ret x → 0 ≤ x ∧ v ∈ l) ∧ (q = .go () → v ∉ l)) (fun i h => absurd h (by omega)) (fun j s _ hj hI => ?_) fun s h => ⟨fun x e => (by cases e), fun _ hm => ?_⟩
    · unfold slices_Index_int_B1
      by_cases he : v = l.getD j 0
      · right; right
        refine ⟨(j : Int), by rw [if_pos he], fun x e => ?_, fun e => by cases e⟩
        injection e with e; subst e
        exact ⟨by omega, he ▸ mem_getD (by omega)⟩
      · left
        refine ⟨(), by rw [if_neg he], fun i hi => ?_⟩
        by_cases h : i = j
        · subst h; exact fun e => he e.symm
        · exact hI i (by omega)
    · obtain ⟨k, hk, e⟩ := getD_of_mem (d := 0) hm
      exact h k (by omega) e
  obtain ⟨q, h1, h2, h3⟩ := this
  rw [h1]
  cases q with
  | go s => simp [h3 rfl]
  | ret x => have := h2 x rfl; simp [this.1, this.2]
def turnA (a : Arc) : Arc := ⟨a.t, a.f, a.c⟩
@[simp] theorem turn_turn (l : List Arc) : (l.map turnA).map turnA = l := by
  rw [List.map_map]
  exact List.map_id'' (fun a => by cases a; rfl) l
def outs (l : List Arc) (i : Int) : Int := (l.countP fun a => a.f == i : Nat)
def cnt (S : Nat → Bool) : Nat → Nat
  | 0 => 0
  | n + 1 => cnt S n + cond (S n) 1 0
theorem cnt_le (S : Nat → Bool) : ∀ n, cnt S n ≤ n
  | 0 => Nat.le_refl _
  | n + 1 => by have := cnt_le S n; simp only [cnt]; cases S n <;> simp <;> omega
theorem cnt_mono {S T : Nat → Bool} : ∀ {n : Nat}, (∀ x, x < n → S x = true → T x = true) → cnt S n ≤ cnt T n
  | 0, _ => Nat.le_refl _
  | n + 1, h => by
    have := cnt_mono (n := n) fun x hx => h x (by omega)
    have h2 := h n (by omega)
    simp only [cnt]
    cases hS : S n
    · simp; omega
    · simp [h2 hS, this]
theorem cnt_lt {S T : Nat → Bool} : ∀ {n : Nat} {y : Nat}, (∀ x, x < n → S x = true → T x = true) → y < n → T y = true → S y = false → cnt S n < cnt T n
  | 0, _, _, h, _, _ => absurd h (by omega)
  | n + 1, y, h, hy, hT, hS => by
    simp only [cnt]
    by_cases e : y = n
    · subst e
      have := cnt_mono (S := S) (T := T) (n := y) fun x hx => h x (by omega)
      simp [hT, hS]; omega
    · have := cnt_lt (n := n) (y := y) (fun x hx => h x (by omega)) (by omega) hT hS
      have h2 := h n (by omega)
      cases hS : S n
      · simp; omega
      · simp [h2 hS, this]
theorem cnt_pos {S : Nat → Bool} {n y : Nat} (hy : y < n) (h : S y = true) : 1 ≤ cnt S n := by
  have := cnt_lt (S := fun _ => false) (T := S) (n := n) (y := y) (fun _ _ h => by cases h) hy h rfl
  omega
theorem rounds_rest {n : Nat} (S : Nat → Nat → Bool) (hmono : ∀ r x, x < n → S r x = true → S (r + 1) x = true) (hdet : ∀ r r', (∀ x, x < n → S r x = S r' x) → ∀ x, x < n → S (r + 1) x = S (r' + 1) x) (h0 : ∃ x, x < n ∧ S 0 x = true) :
    ∀ x, x < n → S (n + 1) x = S n x := by
  have key : ∀ r, (∃ j, j ≤ r ∧ ∀ x, x < n → S (j + 1) x = S j x) ∨ r + 1 ≤ cnt (S r) n := by
    intro r
    induction r with
    | zero =>
      obtain ⟨x, hx, hs⟩ := h0
      exact .inr (cnt_pos hx hs)
    | succ r ih =>
      rcases ih with ⟨j, hj, h⟩ | h
      · exact .inl ⟨j, by omega, h⟩
      · by_cases he : ∀ x, x < n → S (r + 1) x = S r x
        · exact .inl ⟨r, by omega, he⟩
        · right
          have : ∃ y, y < n ∧ S (r + 1) y = true ∧ S r y = false := by
            refine Classical.byContradiction fun hn => he fun x hx => ?_
            cases h1 : S r x with
            | true => exact hmono r x hx h1
            | false =>
              cases h2 : S (r + 1) x with
              | false => rfl
              | true => exact absurd ⟨x, hx, h2, h1⟩ hn
          obtain ⟨y, hy, h1, h2⟩ := this
          have := cnt_lt (n := n) (fun x hx => hmono r x hx) hy h1 h2
          omega
  have stay : ∀ j, (∀ x, x < n → S (j + 1) x = S j x) → ∀ i, ∀ x, x < n → S (j + i + 1) x = S (j + i) x := by
    intro j h i
    induction i with
    | zero => exact h
    | succ i ih => exact hdet (j + i + 1) (j + i) ih
  rcases key n with ⟨j, hj, h⟩ | h
  · have := stay j h (n - j)
    rwa [show j + (n - j) = n by omega] at this
  · have := cnt_le (S n) n
    omega
def iter {σ : Type} (f : σ → σ) : Nat → σ → σ
  | 0, s => s
  | r + 1, s => f (iter f r s)
theorem forN_iter {σ : Type} {f : Nat → σ → Option σ} {g : σ → σ} (V : σ → Prop) (hV : ∀ s, V s → V (g s)) (h : ∀ k s, V s → f k s = some (g s)) : ∀ {n k : Nat} {s : σ}, V s → forN f n k s = some (iter g n s) ∧ V (iter g n s)
  | 0, _, s, hs => ⟨rfl, hs⟩
  | n + 1, k, s, hs => by
    have e : ∀ (m : Nat) (s : σ), iter g m (g s) = g (iter g m s) := fun m s => by
      induction m with
      | zero => rfl
      | succ m ih => simp only [iter, ih]
    have := forN_iter V hV h (n := n) (k := k + 1) (hV s hs)
    rw [forN, h k s hs, bind_some', this.1]
    rw [e n s] at this ⊢
    exact ⟨rfl, this.2⟩
theorem rest_fold {σ α : Type} {n : Int} (L : List α) (step : σ → α → σ) (S : σ → Int → Prop) (V : σ → Prop) (hV : ∀ s a, a ∈ L → V s → V (step s a))
    (mono : ∀ s a, a ∈ L → V s → ∀ x, 0 ≤ x → x < n → S s x → S (step s a) x)
    (det : ∀ s s' a, a ∈ L → V s → V s' → (∀ x, 0 ≤ x → x < n → (S s x ↔ S s' x)) → ∀ x, 0 ≤ x → x < n → (S (step s a) x ↔ S (step s' a) x))
    {s0 : σ} (h0 : V s0) (hx : ∃ x, 0 ≤ x ∧ x < n ∧ S s0 x) :
    ∀ a, a ∈ L → ∃ s, V s ∧ (∀ x, 0 ≤ x → x < n → (S s x ↔ S (iter (fun s => L.foldl step s) n.toNat s0) x)) ∧ ∀ x, 0 ≤ x → x < n → S (step s a) x → S (iter (fun s => L.foldl step s) n.toNat s0) x := by
  have fV : ∀ (M : List α), (∀ a, a ∈ M → a ∈ L) → ∀ s, V s → V (M.foldl step s) := by
    intro M
    induction M with
    | nil => intro _ s h; exact h
    | cons a M ih => intro hM s h; exact ih (fun b hb => hM b (by simp [hb])) _ (hV s a (hM a (by simp)) h)
  have fmono : ∀ (M : List α), (∀ a, a ∈ M → a ∈ L) → ∀ s, V s → ∀ x, 0 ≤ x → x < n → S s x → S (M.foldl step s) x := by
    intro M
    induction M with
    | nil => intro _ s _ x _ _ h; exact h
    | cons a M ih => intro hM s h x h1 h2 h3; exact ih (fun b hb => hM b (by simp [hb])) _ (hV s a (hM a (by simp)) h) x h1 h2 (mono s a (hM a (by simp)) h x h1 h2 h3)
  have fdet : ∀ (M : List α), (∀ a, a ∈ M → a ∈ L) → ∀ s s', V s → V s' → (∀ x, 0 ≤ x → x < n → (S s x ↔ S s' x)) → ∀ x, 0 ≤ x → x < n → (S (M.foldl step s) x ↔ S (M.foldl step s') x) := by
    intro M
    induction M with
    | nil => intro _ s s' _ _ h; exact h
    | cons a M ih => intro hM s s' h h' hh; exact ih (fun b hb => hM b (by simp [hb])) _ _ (hV s a (hM a (by simp)) h) (hV s' a (hM a (by simp)) h') (det s s' a (hM a (by simp)) h h' hh)
  have iV : ∀ r, V (iter (fun s => L.foldl step s) r s0) := by
    intro r
    induction r with
    | zero => exact h0
    | succ r ih => exact fV L (fun _ h => h) _ ih
  intro a ha
  by_cases hn : n ≤ 0
  · exact ⟨s0, h0, fun x h1 h2 => by omega, fun x h1 h2 => by omega⟩
  have rest := rounds_rest (n := n.toNat) (fun r x => open Classical in decide (S (iter (fun s => L.foldl step s) r s0) (x : Int))) (fun r x hx h => by
      simp only [decide_eq_true_eq] at h ⊢
      exact fmono L (fun _ h => h) _ (iV r) x (by omega) (by omega) h) (fun r r' h x hx => by
      have := fdet L (fun _ h => h) _ _ (iV r) (iV r') (fun y h1 h2 => by
        have := h y.toNat (by omega)
        simp only [decide_eq_decide] at this
        rwa [show ((y.toNat : Nat) : Int) = y by omega] at this) x (by omega) (by omega)
      simp only [decide_eq_decide]
      exact this) (by
      obtain ⟨x, h1, h2, h3⟩ := hx
      refine ⟨x.toNat, by omega, ?_⟩
      simp only [decide_eq_true_eq]
      rw [show ((x.toNat : Nat) : Int) = x by omega]
      exact h3)
  obtain ⟨M1, M2, hL⟩ := List.append_of_mem ha
  have hM1 : ∀ b, b ∈ M1 → b ∈ L := fun b hb => by rw [hL]; simp [hb]
  have hM2 : ∀ b, b ∈ M2 → b ∈ L := fun b hb => by rw [hL]; simp [hb]
  have hV1 := fV M1 hM1 _ (iV n.toNat)
  have hV2 := hV _ a ha hV1
  have efin : iter (fun s => L.foldl step s) (n.toNat + 1) s0 = M2.foldl step (step (M1.foldl step (iter (fun s => L.foldl step s) n.toNat s0)) a) := by
    have : ∀ t, L.foldl step t = M2.foldl step (step (M1.foldl step t) a) := fun t => by rw [hL, List.foldl_append, List.foldl_cons]
    exact this _
  have back : ∀ x, 0 ≤ x → x < n → S (step (M1.foldl step (iter (fun s => L.foldl step s) n.toNat s0)) a) x → S (iter (fun s => L.foldl step s) n.toNat s0) x := fun x h1 h2 h3 => by
    have := rest x.toNat (by omega)
    simp only [decide_eq_decide] at this
    rw [show ((x.toNat : Nat) : Int) = x by omega] at this
    refine this.1 ?_
    rw [efin]
    exact fmono M2 hM2 _ hV2 x h1 h2 h3
  exact ⟨_, hV1, fun x h1 h2 => ⟨fun h => back x h1 h2 (mono _ a ha hV1 x h1 h2 h), fun h => fmono M1 hM1 _ (iV n.toNat) x h1 h2 h⟩, back⟩
inductive Way (l : List Arc) (s : Int) : Nat → Int → Prop
  | nil : Way l s 0 s
  | snoc {k : Nat} {a : Arc} (h : Way l s k a.f) (ha : a ∈ l) : Way l s (k + 1) a.t
theorem tot_two {f : Nat → Int} {a b n : Nat} (ha : a < n) (hb : b < n) (hab : a ≠ b) (h : ∀ i, i < n → i ≠ a → i ≠ b → f i = 0) : tot f n = f a + f b := by
  have e : tot f n = tot (fun i => (if i = a then f a else 0) + (if i = b then f b else 0)) n := tot_congr fun i hi => by
    by_cases h1 : i = a
    · subst h1; rw [if_pos rfl, if_neg hab]; omega
    · by_cases h2 : i = b
      · subst h2; rw [if_neg h1, if_pos rfl]; omega
      · rw [if_neg h1, if_neg h2, h i hi h1 h2]; rfl
  rw [e, tot_add, tot_single ha (fun i _ hi => if_neg hi), tot_single hb (fun i _ hi => if_neg hi), if_pos rfl, if_pos rfl]
theorem tot_abs {f : Nat → Int} {M : Int} : ∀ {n : Nat}, (∀ i, i < n → -M ≤ f i ∧ f i ≤ M) → -(M * n) ≤ tot f n ∧ tot f n ≤ M * n
  | 0, _ => by simp [tot]
  | n + 1, h => by
    have := tot_abs (n := n) fun i hi => h i (by omega)
    have := h n (by omega)
    rw [tot]
    have e : M * ((n + 1 : Nat) : Int) = M * (n : Int) + M := by rw [show ((n + 1 : Nat) : Int) = (n : Int) + 1 by omega, Int.mul_add, Int.mul_one]
    omega
def term (L : List Arc) (f : List Int) (x : Int) (k : Nat) : Int := (if (L.getD k El.d).f = x then f.getD k 0 else 0) - (if (L.getD k El.d).t = x then f.getD k 0 else 0)
def netAt (L : List Arc) (f : List Int) (x : Int) : Int := tot (term L f x) L.length
theorem tot_nodes {L : List Arc} {f : List Int} (S : Int → Int) {j : Nat} (h : ∀ k, k < j → 0 ≤ (L.getD k El.d).f ∧ (L.getD k El.d).f < 12 ∧ 0 ≤ (L.getD k El.d).t ∧ (L.getD k El.d).t < 12) :
    tot (fun x => S (x : Int) * tot (term L f (x : Int)) j) 12 = tot (fun k => f.getD k 0 * (S (L.getD k El.d).f - S (L.getD k El.d).t)) j := by
  induction j with
  | zero => simp only [tot, Int.mul_zero]; rfl
  | succ j ih =>
    have ih' := ih fun k hk => h k (by omega)
    have hj := h j (by omega)
    conv => { rhs; rw [tot] }
    rw [← ih']
    have e : tot (fun x => S (x : Int) * tot (term L f (x : Int)) (j + 1)) 12 = tot (fun x => S (x : Int) * tot (term L f (x : Int)) j + S (x : Int) * term L f (x : Int) j) 12 := tot_congr fun x _ => by rw [tot, Int.mul_add]
    rw [e, tot_add]
    congr 1
    have e2 : tot (fun x => S (x : Int) * term L f (x : Int) j) 12 = tot (fun x => S (x : Int) * (if (L.getD j El.d).f = (x : Int) then f.getD j 0 else 0) - S (x : Int) * (if (L.getD j El.d).t = (x : Int) then f.getD j 0 else 0)) 12 := tot_congr fun x _ => by rw [term, Int.mul_sub]
    rw [e2, tot_sub, tot_single (k := (L.getD j El.d).f.toNat) (by omega) (fun i _ hi => by rw [if_neg (by omega), Int.mul_zero]), tot_single (k := (L.getD j El.d).t.toNat) (by omega) (fun i _ hi => by rw [if_neg (by omega), Int.mul_zero])]
    rw [if_pos (by omega), if_pos (by omega), show (((L.getD j El.d).f.toNat : Nat) : Int) = (L.getD j El.d).f by omega, show (((L.getD j El.d).t.toNat : Nat) : Int) = (L.getD j El.d).t by omega, Int.mul_sub, Int.mul_comm (S _), Int.mul_comm (S _)]
structure OkNet (n : Net) : Prop where
  g : OkL ⟨n.n, n.as⟩ 0
  s0 : 0 ≤ n.s
  s1 : n.s < n.n
  t0 : 0 ≤ n.t
  t1 : n.t < n.n
  ne : n.s ≠ n.t
theorem checkNet_cases (n : Net) : (OkNet n ∧ graph_CheckNet_F n = some 0) ∨ (¬ OkNet n ∧ ∃ e, e ≠ 0 ∧ graph_CheckNet_F n = some e) := by
  unfold graph_CheckNet_F
  rw [check0_eq, bind_some']
  by_cases hc : checkF ⟨n.n, n.as⟩ 0 = 0
  · rw [if_neg (by omega)]
    have hg := (checkF_ok _ _).1 hc
    by_cases h1 : n.s < 0
    · rw [if_pos h1]; exact .inr ⟨fun h => by have := h.s0; omega, 4, by decide, rfl⟩
    by_cases h2 : n.n ≤ n.s
    · rw [if_neg h1, if_pos h2]; exact .inr ⟨fun h => by have := h.s1; omega, 4, by decide, rfl⟩
    by_cases h3 : n.t < 0
    · rw [if_neg h1, if_neg h2, if_pos h3]; exact .inr ⟨fun h => by have := h.t0; omega, 4, by decide, rfl⟩
    by_cases h4 : n.n ≤ n.t
    · rw [if_neg h1, if_neg h2, if_neg h3, if_pos h4]; exact .inr ⟨fun h => by have := h.t1; omega, 4, by decide, rfl⟩
    by_cases h5 : n.s = n.t
    · rw [if_neg h1, if_neg h2, if_neg h3, if_neg h4, if_pos h5]; exact .inr ⟨fun h => h.ne h5, 3, by decide, rfl⟩
    · rw [if_neg h1, if_neg h2, if_neg h3, if_neg h4, if_neg h5]; exact .inl ⟨⟨hg, by omega, by omega, by omega, by omega, h5⟩, rfl⟩
  · rw [if_pos hc]
    exact .inr ⟨fun h => hc ((checkF_ok _ _).2 h.g), _, hc, rfl⟩
structure Flow (n : Net) (f : List Int) : Prop where
  net : OkNet n
  len : f.length = n.as.length
  r : ∀ k, k < f.length → 0 ≤ f.getD k 0 ∧ f.getD k 0 ≤ (n.as.getD k El.d).c
  keep : ∀ x : Nat, x < 12 → (x : Int) ≠ n.s → (x : Int) ≠ n.t → netAt n.as f x = 0
theorem OkNet.arc {n : Net} (h : OkNet n) {k : Nat} (hk : k < n.as.length) : Good n.n 0 (n.as.getD k El.d) := h.g.arc _ (mem_getD hk)
theorem OkNet.small {n : Net} (h : OkNet n) {k : Nat} (hk : k < n.as.length) : 0 ≤ (n.as.getD k El.d).f ∧ (n.as.getD k El.d).f < 12 ∧ 0 ≤ (n.as.getD k El.d).t ∧ (n.as.getD k El.d).t < 12 := by
  have hG := h.arc hk
  have := hG.f0; have := hG.f1; have := hG.t0; have := hG.t1; have := h.g.n1
  dsimp only at this
  omega
theorem check_loop1 {n : Net} {f : List Int} (hn : OkNet n) (hl : f.length = n.as.length) : ∃ q, forC (flow_Check_B1 n f) f.length 0 (fun _ => (0 : Int)) = some q ∧
    (match q with | .go F => (∀ k, k < f.length → 0 ≤ f.getD k 0 ∧ f.getD k 0 ≤ (n.as.getD k El.d).c) ∧ ∀ x : Nat, F x = -netAt n.as f x | .ret r => r = 7 ∧ ¬ Flow n f) := by
  have hlen := hn.g.len
  dsimp only at hlen
  refine forC_or (f := flow_Check_B1 n f) (fun j F => (∀ k, k < j → 0 ≤ f.getD k 0 ∧ f.getD k 0 ≤ (n.as.getD k El.d).c) ∧ (∀ x : Nat, F x = -tot (term n.as f x) j) ∧ ∀ x : Nat, -(20000 * (j : Int)) ≤ F x ∧ F x ≤ 20000 * (j : Int))
    (fun q => match q with | .go F => (∀ k, k < f.length → 0 ≤ f.getD k 0 ∧ f.getD k 0 ≤ (n.as.getD k El.d).c) ∧ ∀ x : Nat, F x = -netAt n.as f x | .ret r => r = 7 ∧ ¬ Flow n f)
    ⟨fun k hk => by omega, fun x => rfl, fun x => by simp⟩ (fun j F _ hj ⟨i1, i2, i3⟩ => ?_) (fun F ⟨i1, i2, i3⟩ => ⟨fun k hk => i1 k (by omega), fun x => by rw [i2 x, netAt, hl]; simp⟩)
  have hj' : j < f.length := by omega
  have hsm := hn.small (k := j) (by omega)
  have hG := hn.arc (k := j) (by omega)
  have c1 := hG.c1
  unfold flow_Check_B1
  by_cases h1 : f.getD j 0 < 0
  · rw [if_pos h1]
    exact .inr (.inr ⟨7, rfl, rfl, fun h => by have := (h.r j hj').1; omega⟩)
  rw [if_neg h1, ck_some (by omega)]
  by_cases h2 : (n.as.getD j El.d).c < f.getD j 0
  · rw [if_pos h2]
    exact .inr (.inr ⟨7, rfl, rfl, fun h => by have := (h.r j hj').2; omega⟩)
  rw [if_neg h2]
  have b1 := i3 (n.as.getD j El.d).f.toNat
  have b2 : ∀ y, -(20000 * (j : Int)) - 10000 ≤ updF F (n.as.getD j El.d).f.toNat (F (n.as.getD j El.d).f.toNat - f.getD j 0) y ∧ updF F (n.as.getD j El.d).f.toNat (F (n.as.getD j El.d).f.toNat - f.getD j 0) y ≤ 20000 * (j : Int) := fun y => by
    have := i3 y
    unfold updF
    split <;> omega
  have b3 := b2 (n.as.getD j El.d).t.toNat
  rw [ck_some ⟨by omega, by omega⟩, ck_some (inI_small (by omega) (by omega)), ck_some ⟨by omega, by omega⟩, ck_some (inI_small (by omega) (by omega))]
  refine .inl ⟨_, rfl, fun k hk => ?_, fun x => ?_, fun x => ?_⟩
  · by_cases e : k = j
    · subst e; omega
    · exact i1 k (by omega)
  · have hx := i2 x
    have hp := i2 (n.as.getD j El.d).f.toNat
    have hq := i2 (n.as.getD j El.d).t.toNat
    rw [tot, term]
    by_cases e1 : (n.as.getD j El.d).f = (x : Int)
    · rw [if_pos e1]
      by_cases e2 : (n.as.getD j El.d).t = (x : Int)
      · rw [if_pos e2]
        have q1 : x = (n.as.getD j El.d).t.toNat := by omega
        have q2 : (n.as.getD j El.d).f.toNat = x := by omega
        unfold updF
        rw [if_pos q1, if_pos (by omega), q2]
        omega
      · rw [if_neg e2]
        have e : x = (n.as.getD j El.d).f.toNat := by omega
        unfold updF
        rw [if_neg (by omega), if_pos e, ← e]
        omega
    · rw [if_neg e1]
      by_cases e2 : (n.as.getD j El.d).t = (x : Int)
      · rw [if_pos e2]
        have e : x = (n.as.getD j El.d).t.toNat := by omega
        unfold updF
        rw [if_pos e, if_neg (by omega), ← e]
        omega
      · rw [if_neg e2]
        unfold updF
        rw [if_neg (by omega), if_neg (by omega)]
        omega
  · have := b2 x
    conv => { rw [updF] }
    split <;> omega
theorem check_loop2 {n : Net} {F : Nat → Int} : ∃ q, forC (flow_Check_B2 n F) 12 0 () = some q ∧ (match q with | .go _ => ∀ x : Nat, x < 12 → (x : Int) ≠ n.s → (x : Int) ≠ n.t → F x = 0 | .ret r => r = 8 ∧ ∃ x : Nat, x < 12 ∧ (x : Int) ≠ n.s ∧ (x : Int) ≠ n.t ∧ F x ≠ 0) := by
  refine forC_or (f := flow_Check_B2 n F) (fun j _ => ∀ x : Nat, x < j → (x : Int) ≠ n.s → (x : Int) ≠ n.t → F x = 0)
    (fun q => match q with | .go _ => ∀ x : Nat, x < 12 → (x : Int) ≠ n.s → (x : Int) ≠ n.t → F x = 0 | .ret r => r = 8 ∧ ∃ x : Nat, x < 12 ∧ (x : Int) ≠ n.s ∧ (x : Int) ≠ n.t ∧ F x ≠ 0)
    (fun x hx => by omega) (fun j _ _ hj i1 => ?_) (fun _ i1 => i1)
  unfold flow_Check_B2
  have next : (F j ≠ 0 → (j : Int) = n.s ∨ (j : Int) = n.t) → ∀ x : Nat, x < j + 1 → (x : Int) ≠ n.s → (x : Int) ≠ n.t → F x = 0 := fun h x hx h1 h2 => by
    by_cases e : x = j
    · subst e
      exact Classical.byContradiction fun z => by rcases h z with h | h <;> contradiction
    · exact i1 x (by omega) h1 h2
  by_cases h1 : F j ≠ 0
  · rw [if_pos h1]
    by_cases h2 : (j : Int) ≠ n.s
    · rw [if_pos h2]
      by_cases h3 : (j : Int) ≠ n.t
      · rw [if_pos h3]; exact .inr (.inr ⟨8, rfl, rfl, j, by omega, h2, h3, h1⟩)
      · rw [if_neg h3]; exact .inl ⟨_, rfl, next fun _ => .inr (Classical.not_not.1 h3)⟩
    · rw [if_neg h2]; exact .inl ⟨_, rfl, next fun _ => .inl (Classical.not_not.1 h2)⟩
  · rw [if_neg h1]; exact .inl ⟨_, rfl, next fun z => absurd z h1⟩
theorem flowCheck_cases (n : Net) (f : List Int) : (Flow n f ∧ flow_Check_F n f = some 0) ∨ (¬ Flow n f ∧ ∃ e, e ≠ 0 ∧ flow_Check_F n f = some e) := by
  unfold flow_Check_F
  rcases checkNet_cases n with ⟨hn, h1⟩ | ⟨hn, e, he, h1⟩
  · rw [h1, bind_some', if_neg (by decide)]
    by_cases hl : f.length = n.as.length
    · rw [if_neg (by omega)]
      obtain ⟨q, h2, h3⟩ := check_loop1 hn hl
      rw [h2, bind_some']
      match q, h3 with
      | .go F, h3 =>
        obtain ⟨q2, h4, h5⟩ := check_loop2 (n := n) (F := F)
        dsimp only
        rw [h4, bind_some']
        match q2, h5 with
        | .go _, h5 => exact .inl ⟨⟨hn, hl, h3.1, fun x hx h6 h7 => by have := h5 x hx h6 h7; have := h3.2 x; omega⟩, rfl⟩
        | .ret r, h5 =>
          obtain ⟨rfl, x, hx, h6, h7, h8⟩ := h5
          exact .inr ⟨fun h => h8 (by rw [h3.2 x, h.keep x hx h6 h7]; rfl), 8, by decide, rfl⟩
      | .ret r, h3 =>
        obtain ⟨rfl, h3⟩ := h3
        exact .inr ⟨h3, 7, by decide, rfl⟩
    · rw [if_pos (by omega)]
      exact .inr ⟨fun h => hl h.len, 3, by decide, rfl⟩
  · rw [h1, bind_some', if_pos he]
    exact .inr ⟨fun h => hn h.net, e, he, rfl⟩
theorem Flow.term_le {n : Net} {f : List Int} (h : Flow n f) (x : Int) {k : Nat} (hk : k < n.as.length) : -10000 ≤ term n.as f x k ∧ term n.as f x k ≤ 10000 := by
  have := h.r k (by rw [h.len]; exact hk)
  have := (h.net.arc hk).c1
  unfold term
  split <;> split <;> omega
theorem value_ok {n : Net} {f : List Int} (h : Flow n f) : flow_Value_F n f = some (netAt n.as f n.s, 0) := by
  have hlen := h.net.g.len
  dsimp only at hlen
  unfold flow_Value_F
  rcases flowCheck_cases n f with ⟨_, h1⟩ | ⟨h1, _⟩
  · obtain ⟨x, h2, h3⟩ := forN_inv (f := flow_Value_B1 n f) (fun j x => x = tot (term n.as f n.s) j) (n := n.as.length) (k := 0) (s := 0) rfl fun j x _ hj hx => by
      have hj' : j < n.as.length := by omega
      have hl := h.len
      have hr := h.r j (by omega)
      have hc := (h.net.arc hj').c1
      have hb := tot_abs (M := 10000) (n := j) fun i hi => h.term_le n.s (k := i) (by omega)
      rw [← hx] at hb
      refine ⟨_, ?_, rfl⟩
      unfold flow_Value_B1
      rw [tot, ← hx, term]
      by_cases e1 : (n.as.getD j El.d).f = n.s
      · rw [if_pos e1, ck_some (by omega), ck_some (inI_small (by omega) (by omega)), bind_some', if_pos e1]
        by_cases e2 : (n.as.getD j El.d).t = n.s
        · rw [if_pos e2, ck_some (by omega), ck_some (inI_small (by omega) (by omega)), if_pos e2]
          congr 1; omega
        · rw [if_neg e2, if_neg e2]; congr 1; omega
      · rw [if_neg e1, bind_some', if_neg e1]
        by_cases e2 : (n.as.getD j El.d).t = n.s
        · rw [if_pos e2, ck_some (by omega), ck_some (inI_small (by omega) (by omega)), if_pos e2]
          congr 1; omega
        · rw [if_neg e2, if_neg e2]; congr 1; omega
    rw [h1, bind_some', if_neg (by decide), h2, bind_some', h3, Nat.zero_add]
    rfl
  · exact absurd h h1
theorem Flow.sides {n : Net} {f : List Int} (h : Flow n f) (S : Int → Int) : tot (fun k => f.getD k 0 * (S (n.as.getD k El.d).f - S (n.as.getD k El.d).t)) n.as.length = S n.s * netAt n.as f n.s + S n.t * netAt n.as f n.t := by
  have hn := h.net
  have := hn.s0; have := hn.s1; have := hn.t0; have := hn.t1; have hne := hn.ne; have h12 := hn.g.n1
  dsimp only at h12
  rw [← tot_nodes S (fun k hk => hn.small hk), tot_two (a := n.s.toNat) (b := n.t.toNat) (by omega) (by omega) (by omega) (fun i hi h1 h2 => by
    rw [show tot (term n.as f (i : Int)) n.as.length = netAt n.as f i from rfl, h.keep i hi (by omega) (by omega), Int.mul_zero])]
  rw [show ((n.s.toNat : Nat) : Int) = n.s by omega, show ((n.t.toNat : Nat) : Int) = n.t by omega]
  rfl
theorem Flow.ends {n : Net} {f : List Int} (h : Flow n f) : netAt n.as f n.s + netAt n.as f n.t = 0 := by
  have := h.sides (fun _ => 1)
  simp only [Int.sub_self, Int.mul_zero, Int.one_mul] at this
  rw [← this]
  exact tot_zero fun _ _ => rfl
structure Cut (n : Net) (S : Int → Int) : Prop where
  s : S n.s = 1
  t : S n.t = 0
  b : ∀ x, S x = 0 ∨ S x = 1
def cross (L : List Arc) (S : Int → Int) (k : Nat) : Int := if S (L.getD k El.d).f = 1 ∧ S (L.getD k El.d).t = 0 then (L.getD k El.d).c else 0
def capS (L : List Arc) (S : Int → Int) : Int := tot (cross L S) L.length
theorem cut_term {f c a b : Int} (h0 : 0 ≤ f) (h1 : f ≤ c) (ha : a = 0 ∨ a = 1) (hb : b = 0 ∨ b = 1) : f * (a - b) ≤ if a = 1 ∧ b = 0 then c else 0 := by
  rcases ha with rfl | rfl <;> rcases hb with rfl | rfl <;> simp <;> omega
theorem cut_term_eq {f c a b : Int} (ha : a = 0 ∨ a = 1) (hb : b = 0 ∨ b = 1) (h1 : a = 1 → b = 0 → f = c) (h2 : a = 0 → b = 1 → f = 0) : f * (a - b) = if a = 1 ∧ b = 0 then c else 0 := by
  rcases ha with rfl | rfl <;> rcases hb with rfl | rfl <;> simp at * <;> omega
theorem cut_term_out {f c a b : Int} (h : f * (a - b) = if a = 1 ∧ b = 0 then c else 0) (ha : a = 1) (hb : b = 0) : f = c := by
  subst ha hb; simpa using h
theorem cut_term_in {f c a b : Int} (h : f * (a - b) = if a = 1 ∧ b = 0 then c else 0) (ha : a = 0) (hb : b = 1) : f = 0 := by
  subst ha hb; simp at h; omega
theorem Flow.value_cut {n : Net} {f : List Int} (h : Flow n f) {S : Int → Int} (hS : Cut n S) : netAt n.as f n.s = tot (fun k => f.getD k 0 * (S (n.as.getD k El.d).f - S (n.as.getD k El.d).t)) n.as.length := by
  rw [h.sides S, hS.s, hS.t]; omega
theorem Flow.le_cut {n : Net} {f : List Int} (h : Flow n f) {S : Int → Int} (hS : Cut n S) : netAt n.as f n.s ≤ capS n.as S := by
  rw [h.value_cut hS]
  refine tot_le fun k hk => ?_
  have hr := h.r k (by rw [h.len]; exact hk)
  exact cut_term hr.1 hr.2 (hS.b _) (hS.b _)
structure Tight (n : Net) (f : List Int) (S : Int → Int) : Prop where
  out : ∀ k, k < n.as.length → S (n.as.getD k El.d).f = 1 → S (n.as.getD k El.d).t = 0 → f.getD k 0 = (n.as.getD k El.d).c
  inn : ∀ k, k < n.as.length → S (n.as.getD k El.d).f = 0 → S (n.as.getD k El.d).t = 1 → f.getD k 0 = 0
theorem Flow.eq_cut {n : Net} {f : List Int} (h : Flow n f) {S : Int → Int} (hS : Cut n S) (ht : Tight n f S) : netAt n.as f n.s = capS n.as S := by
  rw [h.value_cut hS]
  refine tot_congr fun k hk => ?_
  exact cut_term_eq (hS.b _) (hS.b _) (ht.out k hk) (ht.inn k hk)
theorem Flow.tight {n : Net} {f : List Int} (h : Flow n f) {S : Int → Int} (hS : Cut n S) (he : netAt n.as f n.s = capS n.as S) : Tight n f S := by
  rw [h.value_cut hS] at he
  have key : ∀ k, k < n.as.length → f.getD k 0 * (S (n.as.getD k El.d).f - S (n.as.getD k El.d).t) = cross n.as S k := fun k hk => by
    refine tot_eq_each (f := fun k => f.getD k 0 * (S (n.as.getD k El.d).f - S (n.as.getD k El.d).t)) (g := cross n.as S) (fun i hi => ?_) he k hk
    have hr := h.r i (by rw [h.len]; exact hi)
    exact cut_term hr.1 hr.2 (hS.b _) (hS.b _)
  exact ⟨fun k hk e1 e2 => cut_term_out (key k hk) e1 e2, fun k hk e1 e2 => cut_term_in (key k hk) e1 e2⟩
structure MaxV (n : Net) (v : Int) : Prop where
  flow : ∃ f, Flow n f ∧ netAt n.as f n.s = v
  cut : ∃ S, Cut n S ∧ capS n.as S = v
theorem MaxV.le {n : Net} {v : Int} (h : MaxV n v) {f : List Int} (hf : Flow n f) : netAt n.as f n.s ≤ v := by
  obtain ⟨S, h1, h2⟩ := h.cut
  rw [← h2]; exact hf.le_cut h1
theorem MaxV.ge {n : Net} {v : Int} (h : MaxV n v) {S : Int → Int} (hS : Cut n S) : v ≤ capS n.as S := by
  obtain ⟨f, h1, h2⟩ := h.flow
  rw [← h2]; exact h1.le_cut hS
theorem MaxV.uniq {n : Net} {v w : Int} (h : MaxV n v) (h' : MaxV n w) : v = w := by
  obtain ⟨f, h1, h2⟩ := h.flow
  obtain ⟨g, h3, h4⟩ := h'.flow
  have := h.le h3; have := h'.le h1
  omega
theorem MaxV.nonneg {n : Net} {v : Int} (h : MaxV n v) (hn : OkNet n) : 0 ≤ v := by
  obtain ⟨S, h1, h2⟩ := h.cut
  rw [← h2]
  refine tot_nonneg fun k hk => ?_
  have := (hn.arc hk).c0
  unfold cross
  split <;> omega
structure StepR (L : List Arc) (f : List Int) (st : Step) (x y : Int) : Prop where
  a0 : 0 ≤ st.arc
  a1 : st.arc.toNat < L.length
  fw : st.back = false → (L.getD st.arc.toNat El.d).f = x ∧ (L.getD st.arc.toNat El.d).t = y ∧ f.getD st.arc.toNat 0 < (L.getD st.arc.toNat El.d).c
  bw : st.back = true → (L.getD st.arc.toNat El.d).t = x ∧ (L.getD st.arc.toNat El.d).f = y ∧ 0 < f.getD st.arc.toNat 0
theorem StepR.fwd {L : List Arc} {f : List Int} {j : Nat} {x y : Int} (hj : j < L.length) (h1 : (L.getD j El.d).f = x) (h2 : (L.getD j El.d).t = y) (h3 : f.getD j 0 < (L.getD j El.d).c) : StepR L f ⟨(j : Int), false⟩ x y :=
  ⟨Int.natCast_nonneg _, hj, fun _ => ⟨h1, h2, h3⟩, fun h => nomatch h⟩
theorem StepR.bck {L : List Arc} {f : List Int} {j : Nat} {x y : Int} (hj : j < L.length) (h1 : (L.getD j El.d).t = x) (h2 : (L.getD j El.d).f = y) (h3 : 0 < f.getD j 0) : StepR L f ⟨(j : Int), true⟩ x y :=
  ⟨Int.natCast_nonneg _, hj, (fun h => nomatch h), fun _ => ⟨h1, h2, h3⟩⟩
def roomR (L : List Arc) (f : List Int) (st : Step) : Int := if st.back = true then f.getD st.arc.toNat 0 else (L.getD st.arc.toNat El.d).c - f.getD st.arc.toNat 0
inductive Tree (L : List Arc) (f : List Int) (s : Int) (by' : Nat → Step) (fr : Nat → Int) : Nat → Int → Prop
  | root (h : 0 ≤ fr s.toNat) : Tree L f s by' fr 0 s
  | step {k : Nat} {x : Int} (hx : x ≠ s) (h0 : 0 ≤ fr x.toNat) (hs : StepR L f (by' x.toNat) (fr x.toNat) x) (ht : Tree L f s by' fr k (fr x.toNat)) : Tree L f s by' fr (k + 1) x
theorem Tree.upd {L : List Arc} {f : List Int} {s : Int} {by' : Nat → Step} {fr : Nat → Int} {y : Nat} {st : Step} {z : Int} (hy : fr y < 0) : ∀ {k : Nat} {x : Int}, Tree L f s by' fr k x → Tree L f s (updF by' y st) (updF fr y z) k x
  | _, _, .root h => .root (by rw [updF, if_neg (fun e => by rw [e] at h; omega)]; exact h)
  | _, _, .step (x := x) hx h0 hs ht => by
    have e : x.toNat ≠ y := fun e => by rw [e] at h0; omega
    have e1 : updF fr y z x.toNat = fr x.toNat := by rw [updF, if_neg e]
    have e2 : updF by' y st x.toNat = by' x.toNat := by rw [updF, if_neg e]
    have := Tree.upd (st := st) (z := z) hy ht
    exact .step hx (by rw [e1]; exact h0) (by rw [e1, e2]; exact hs) (by rw [e1]; exact this)
theorem Tree.depth {L : List Arc} {f : List Int} {s : Int} {by' : Nat → Step} {fr : Nat → Int} : ∀ {k k' : Nat} {x : Int}, Tree L f s by' fr k x → Tree L f s by' fr k' x → k = k'
  | _, _, _, .root _, .root _ => rfl
  | _, _, _, .root _, .step hx _ _ _ => absurd rfl hx
  | _, _, _, .step hx _ _ _, .root _ => absurd rfl hx
  | _, _, _, .step _ _ _ h, .step _ _ _ h' => by rw [Tree.depth h h']
def reach (fr : Nat → Int) : Nat → Bool := fun x => decide (0 ≤ fr x)
structure Bfs (n : Net) (f : List Int) (by' : Nat → Step) (fr : Nat → Int) (todo : List Int) : Prop where
  s : fr n.s.toNat = n.s
  tree : ∀ x : Nat, x < 12 → 0 ≤ fr x → (x : Int) < n.n ∧ ∃ k, Tree n.as f n.s by' fr k x ∧ k < cnt (reach fr) 12
  un : ∀ x : Nat, x < 12 → fr x < 0 → fr x = -1
  todo : ∀ y, y ∈ todo → 0 ≤ y ∧ y < n.n ∧ 0 ≤ fr y.toNat
def ResTo (n : Net) (f : List Int) (x : Int) (k : Nat) (y : Int) : Prop := ((n.as.getD k El.d).f = x ∧ (n.as.getD k El.d).t = y ∧ f.getD k 0 < (n.as.getD k El.d).c) ∨ ((n.as.getD k El.d).t = x ∧ (n.as.getD k El.d).f = y ∧ 0 < f.getD k 0)
def Closed (n : Net) (f : List Int) (fr : Nat → Int) (x : Nat) (j : Nat) : Prop := ∀ k, k < j → ∀ y : Nat, ResTo n f x k y → 0 ≤ fr y
theorem Closed.upd {n : Net} {f : List Int} {fr : Nat → Int} {x j y : Nat} {z : Int} (h : Closed n f fr x j) (hz : 0 ≤ z) : Closed n f (updF fr y z) x j := fun k hk w hr => by
  have := h k hk w hr
  unfold updF; split <;> omega
theorem Bfs.add {n : Net} {f : List Int} {by' : Nat → Step} {fr : Nat → Int} {todo : List Int} (h : Bfs n f by' fr todo) {x y : Int} {st : Step} (hx : 0 ≤ x) (hx2 : x < 12) (hrx : 0 ≤ fr x.toNat) (hs : StepR n.as f st x y) (h0 : 0 ≤ y) (h1 : y < n.n) (hn12 : n.n ≤ 12) (hy : fr y.toNat < 0) :
    Bfs n f (updF by' y.toNat st) (updF fr y.toNat x) (todo ++ [y]) ∧ cnt (reach fr) 12 < cnt (reach (updF fr y.toNat x)) 12 := by
  have hne : ∀ z : Nat, 0 ≤ fr z → z ≠ y.toNat := fun z hz e => by rw [e] at hz; omega
  have hc : cnt (reach fr) 12 < cnt (reach (updF fr y.toNat x)) 12 := by
    refine cnt_lt (y := y.toNat) (fun z hz hr => ?_) (by omega) (by simp [reach, updF, hx]) (by simp [reach]; omega)
    simp only [reach, decide_eq_true_eq] at hr ⊢
    rw [updF, if_neg (hne z hr)]; exact hr
  refine ⟨⟨?_, fun z hz hr => ?_, fun z hz hr => ?_, fun z hz => ?_⟩, hc⟩
  · have := h.s
    have hsr : 0 ≤ fr n.s.toNat := by
      by_cases e : 0 ≤ n.s
      · omega
      · obtain ⟨_, k, hk, _⟩ := h.tree x.toNat (by omega) hrx
        have : ∀ {k : Nat} {x : Int}, Tree n.as f n.s by' fr k x → 0 ≤ fr n.s.toNat := fun {k x} ht => by
          induction ht with
          | root h => exact h
          | step _ _ _ _ ih => exact ih
        exact this hk
    rw [updF, if_neg (hne _ hsr)]; exact this
  · by_cases e : z = y.toNat
    · obtain ⟨hxn, k, hk, hkc⟩ := h.tree x.toNat (by omega) hrx
      refine ⟨by omega, k + 1, ?_, by omega⟩
      have hk' := hk.upd (st := st) (z := x) hy
      rw [show ((x.toNat : Nat) : Int) = x by omega] at hk'
      subst e
      rw [show ((y.toNat : Nat) : Int) = y by omega]
      refine .step (fun e => ?_) (by simp [updF, hx]) (by simpa [updF] using hs) (by simpa [updF] using hk')
      have := h.s
      rw [← e] at this
      omega
    · rw [updF, if_neg e] at hr
      obtain ⟨h1, k, hk, hkc⟩ := h.tree z hz hr
      exact ⟨h1, k, hk.upd hy, by omega⟩
  · by_cases e : z = y.toNat
    · rw [updF, if_pos e] at hr; omega
    · rw [updF, if_neg e] at hr ⊢; exact h.un z hz hr
  · rcases List.mem_append.1 hz with hz | hz
    · obtain ⟨h1, h2, h3⟩ := h.todo z hz
      exact ⟨h1, h2, by unfold updF; split <;> omega⟩
    · obtain rfl := List.mem_singleton.1 hz
      exact ⟨h0, h1, by simp [updF, hx]⟩
structure WIn (n : Net) (f : List Int) : Prop where
  net : OkNet n
  len : f.length = n.as.length
  r : ∀ k, k < f.length → 0 ≤ f.getD k 0 ∧ f.getD k 0 ≤ (n.as.getD k El.d).c
theorem Flow.win {n : Net} {f : List Int} (h : Flow n f) : WIn n f := ⟨h.net, h.len, h.r⟩
structure Mid (n : Net) (f : List Int) (at' : Int) (j : Nat) (todo : List Int) (σ : (Nat → Step) × (Nat → Int) × List Int) : Prop where
  bfs : Bfs n f σ.1 σ.2.1 σ.2.2
  pre : ∃ ext, σ.2.2 = todo ++ ext
  rest : ∀ x : Nat, x < 12 → 0 ≤ σ.2.1 x → (x : Int) ∉ σ.2.2 → Closed n f σ.2.1 x n.as.length
  done : Closed n f σ.2.1 at'.toNat j
theorem Mid.add {n : Net} {f : List Int} {at' : Int} {j : Nat} {todo : List Int} {σ : (Nat → Step) × (Nat → Int) × List Int} (h : Mid n f at' j todo σ) {y : Int} {st : Step} (hat : 0 ≤ at' ∧ at' < 12) (hr : 0 ≤ σ.2.1 at'.toNat) (hs : StepR n.as f st at' y) (h0 : 0 ≤ y) (h1 : y < n.n) (hn12 : n.n ≤ 12) (hy : σ.2.1 y.toNat < 0) :
    Mid n f at' j todo (updF σ.1 y.toNat st, updF σ.2.1 y.toNat at', σ.2.2 ++ [y]) ∧ 12 - cnt (reach (updF σ.2.1 y.toNat at')) 12 + (σ.2.2 ++ [y]).length ≤ 12 - cnt (reach σ.2.1) 12 + σ.2.2.length := by
  obtain ⟨b, hc⟩ := h.bfs.add hat.1 hat.2 hr hs h0 h1 hn12 hy
  have hle := cnt_le (reach (updF σ.2.1 y.toNat at')) 12
  have hm : 12 - cnt (reach (updF σ.2.1 y.toNat at')) 12 + (σ.2.2 ++ [y]).length ≤ 12 - cnt (reach σ.2.1) 12 + σ.2.2.length := by simp; omega
  refine ⟨⟨b, ?_, fun x hx hr2 hm => ?_, h.done.upd hat.1⟩, hm⟩
  · obtain ⟨e, he⟩ := h.pre
    exact ⟨e ++ [y], by dsimp only; rw [he, List.append_assoc]⟩
  · dsimp only at hr2 hm ⊢
    have hx1 : (x : Int) ≠ y := fun e => hm (by simp [e])
    rw [updF, if_neg (by omega)] at hr2
    exact (h.rest x hx hr2 fun h => hm (by simp [h])).upd hat.1
def meas (fr : Nat → Int) (l : List Int) : Nat := 12 - cnt (reach fr) 12 + l.length
theorem Closed.snoc {n : Net} {f : List Int} {fr : Nat → Int} {x j : Nat} (h : Closed n f fr x j) (hj : ∀ y : Nat, ResTo n f x j y → 0 ≤ fr y) : Closed n f fr x (j + 1) := fun k hk y hr => by
  by_cases e : k = j
  · subst e; exact hj y hr
  · exact h k (by omega) y hr
theorem way_inner {n : Net} {f : List Int} (hw : WIn n f) {todo : List Int} {at' : Int} (he : todo.getD 0 0 = at') (hat : 0 ≤ at' ∧ at' < 12) {j : Nat} (hj : j < n.as.length) {σ : (Nat → Step) × (Nat → Int) × List Int} (hm : Mid n f at' j todo σ) (hl : σ.2.2.length ≤ 1000) (hr : 0 ≤ σ.2.1 at'.toNat) :
    ∃ σ', most_way_B3 n f todo j σ = some σ' ∧ Mid n f at' (j + 1) todo σ' ∧ meas σ'.2.1 σ'.2.2 ≤ meas σ.2.1 σ.2.2 ∧ 0 ≤ σ'.2.1 at'.toNat := by
  obtain ⟨by', fr, l⟩ := σ
  have hn := hw.net
  have n12 := hn.g.n1
  dsimp only at n12
  have hG := hn.arc hj
  have f0 := hG.f0; have f1 := hG.f1; have t0 := hG.t0; have t1 := hG.t1
  have hlen := hw.len
  dsimp only at hl hr
  unfold most_way_B3
  
  have first : ∃ σ1 : (Nat → Step) × (Nat → Int) × List Int, ((
  if (n.as.getD j El.d).f = todo.getD 0 (0 : Int) then
   ck (j < f.length) <|
   if f.getD j (0 : Int) < (n.as.getD j El.d).c then
    ck (0 ≤ (n.as.getD j El.d).t ∧ (n.as.getD j El.d).t < 12) <|
    if fr (n.as.getD j El.d).t.toNat < 0 then
     ck (l.length + 1 ≤ 17592186044416) <|
     some (updF by' (n.as.getD j El.d).t.toNat (⟨((j : Nat) : Int), false⟩ : Step), updF fr (n.as.getD j El.d).t.toNat (todo.getD 0 (0 : Int)), l ++ ([(n.as.getD j El.d).t] : List Int))
    else
     some (by', fr, l)
   else
    some (by', fr, l)
  else
   some (by', fr, l)) : Option ((Nat → Step) × (Nat → Int) × (List Int))) = some σ1 ∧ Mid n f at' j todo σ1 ∧ meas σ1.2.1 σ1.2.2 ≤ meas fr l ∧ 0 ≤ σ1.2.1 at'.toNat ∧ σ1.2.2.length ≤ 1001 ∧ ∀ y : Nat, (n.as.getD j El.d).f = at' → (n.as.getD j El.d).t = y → f.getD j 0 < (n.as.getD j El.d).c → 0 ≤ σ1.2.1 y := by
    rw [he]
    by_cases h1 : (n.as.getD j El.d).f = at'
    · rw [if_pos h1, ck_some (by omega)]
      by_cases h2 : f.getD j 0 < (n.as.getD j El.d).c
      · rw [if_pos h2, ck_some (by omega)]
        by_cases h3 : fr (n.as.getD j El.d).t.toNat < 0
        · rw [if_pos h3, ck_some (by omega)]
          have hst : StepR n.as f ⟨(j : Int), false⟩ at' (n.as.getD j El.d).t := .fwd hj h1 rfl h2
          obtain ⟨m1, m2⟩ := hm.add hat hr hst t0 t1 n12 h3
          refine ⟨_, rfl, m1, m2, ?_, ?_, fun y _ e _ => ?_⟩
          · dsimp only; unfold updF; split <;> omega
          · simp; omega
          · dsimp only; rw [updF, if_pos (by omega)]; exact hat.1
        · rw [if_neg h3]
          exact ⟨_, rfl, hm, Nat.le_refl _, hr, by dsimp only; omega, fun y _ e _ => by dsimp only; rw [show y = (n.as.getD j El.d).t.toNat by omega]; omega⟩
      · rw [if_neg h2]
        exact ⟨_, rfl, hm, Nat.le_refl _, hr, by dsimp only; omega, fun y _ _ e => absurd e h2⟩
    · rw [if_neg h1]
      exact ⟨_, rfl, hm, Nat.le_refl _, hr, by dsimp only; omega, fun y e _ _ => absurd e h1⟩
  obtain ⟨⟨by1, fr1, l1⟩, e1, hm1, ms1, hr1, hl1, hc1⟩ := first
  dsimp only at hm1 ms1 hr1 hl1 hc1
  dsimp only
  rw [e1, bind_some']
  dsimp only
  rw [he]
  by_cases h1 : (n.as.getD j El.d).t = at'
  · rw [if_pos h1, ck_some (by omega)]
    by_cases h2 : 0 < f.getD j 0
    · rw [if_pos h2, ck_some (by omega)]
      by_cases h3 : fr1 (n.as.getD j El.d).f.toNat < 0
      · rw [if_pos h3, ck_some (by omega)]
        have hst : StepR n.as f ⟨(j : Int), true⟩ at' (n.as.getD j El.d).f := .bck hj h1 rfl h2
        obtain ⟨m1, m2⟩ := hm1.add hat hr1 hst f0 f1 n12 h3
        refine ⟨_, rfl, ⟨m1.bfs, m1.pre, m1.rest, m1.done.snoc fun y hy => ?_⟩, Nat.le_trans m2 ms1, ?_⟩
        · dsimp only at hy ⊢
          rcases hy with ⟨q1, q2, q3⟩ | ⟨q1, q2, q3⟩
          · have := hc1 y (by omega) q2 q3
            unfold updF; split <;> omega
          · rw [updF, if_pos (by omega)]; exact hat.1
        · dsimp only; unfold updF; split <;> omega
      · rw [if_neg h3]
        refine ⟨_, rfl, ⟨hm1.bfs, hm1.pre, hm1.rest, hm1.done.snoc fun y hy => ?_⟩, ms1, hr1⟩
        rcases hy with ⟨q1, q2, q3⟩ | ⟨q1, q2, q3⟩
        · exact hc1 y (by omega) q2 q3
        · dsimp only; rw [show y = (n.as.getD j El.d).f.toNat by omega]; omega
    · rw [if_neg h2]
      refine ⟨_, rfl, ⟨hm1.bfs, hm1.pre, hm1.rest, hm1.done.snoc fun y hy => ?_⟩, ms1, hr1⟩
      rcases hy with ⟨q1, q2, q3⟩ | ⟨q1, q2, q3⟩
      · exact hc1 y (by omega) q2 q3
      · exact absurd q3 h2
  · rw [if_neg h1]
    refine ⟨_, rfl, ⟨hm1.bfs, hm1.pre, hm1.rest, hm1.done.snoc fun y hy => ?_⟩, ms1, hr1⟩
    rcases hy with ⟨q1, q2, q3⟩ | ⟨q1, q2, q3⟩
    · exact hc1 y (by omega) q2 q3
    · omega
structure Out (n : Net) (f : List Int) (σ : (Nat → Step) × (Nat → Int) × List Int) : Prop where
  bfs : Bfs n f σ.1 σ.2.1 σ.2.2
  rest : ∀ x : Nat, x < 12 → 0 ≤ σ.2.1 x → (x : Int) ∉ σ.2.2 → Closed n f σ.2.1 x n.as.length
  m : meas σ.2.1 σ.2.2 ≤ 12
theorem subl_tail {α : Type} [El α] (a : α) (l : List α) : subl (a :: l) 1 ((a :: l).length - 1) = l := by
  refine eq_of_getD (d := El.d) (by simp [subl_length]) fun i hi => ?_
  rw [subl_getD (by simpa [subl_length] using hi)]
  simp [List.getD_eq_getElem?_getD, Nat.add_comm]
theorem way_search {n : Net} {f : List Int} (hw : WIn n f) {σ : (Nat → Step) × (Nat → Int) × List Int} (h0 : Out n f σ) :
    ∃ σ', loopC (most_way_B2 n f) 1000000 σ = some (.go σ') ∧ Out n f σ' ∧ (σ'.2.2 = [] ∨ 0 ≤ σ'.2.1 n.t.toNat) := by
  have hn := hw.net
  have n12 := hn.g.n1; have t0 := hn.t0; have t1 := hn.t1
  dsimp only at n12
  obtain ⟨q, e, hq⟩ := loopC_or (f := most_way_B2 n f) (Out n f) (fun q => ∃ σ', q = .go σ' ∧ Out n f σ' ∧ (σ'.2.2 = [] ∨ 0 ≤ σ'.2.1 n.t.toNat)) (fun σ => meas σ.2.1 σ.2.2) (fun σ h => by
    obtain ⟨by', fr, l⟩ := σ
    have hm := h.m
    dsimp only [meas] at hm
    unfold most_way_B2
    cases l with
    | nil =>
      right; left
      refine ⟨_, by dsimp only; rw [if_neg (by simp)], _, rfl, h, .inl rfl⟩
    | cons at' r =>
      dsimp only
      rw [if_pos (by simp only [List.length_cons]; omega), ck_some (by omega)]
      by_cases ht : fr n.t.toNat < 0
      · rw [if_pos ht, ck_some (by simp)]
        left
        obtain ⟨a0, a1, a2⟩ := h.bfs.todo at' (by simp)
        have := hm
        simp only [List.length_cons] at hm
        obtain ⟨σ', e1, ⟨m1, m2, m3⟩⟩ := forN_inv (f := most_way_B3 n f (at' :: r)) (fun j σ => Mid n f at' j (at' :: r) σ ∧ meas σ.2.1 σ.2.2 ≤ meas fr (at' :: r) ∧ 0 ≤ σ.2.1 at'.toNat) (n := n.as.length) (k := 0) (s := (by', fr, at' :: r))
          ⟨⟨h.bfs, ⟨[], by simp⟩, h.rest, fun k hk => absurd hk (by omega)⟩, Nat.le_refl _, a2⟩ fun j σ _ hj ⟨i1, i2, i3⟩ => by
            obtain ⟨σ', q1, q2, q3, q4⟩ := way_inner hw (todo := at' :: r) (at' := at') (by simp) ⟨a0, by omega⟩ (by omega) i1 (by simp only [meas, List.length_cons] at i2; omega) i3
            exact ⟨σ', q1, q2, by omega, q4⟩
        obtain ⟨by2, fr2, l2⟩ := σ'
        rw [e1, bind_some']
        dsimp only
        obtain ⟨ext, hx⟩ := m1.pre
        dsimp only at hx m2 m3
        have hx' : l2 = at' :: (r ++ ext) := hx
        subst hx'
        rw [ck_some (by simp), subl_tail]
        refine ⟨_, rfl, ⟨⟨m1.bfs.s, m1.bfs.tree, m1.bfs.un, fun y hy => m1.bfs.todo y (List.mem_cons_of_mem _ hy)⟩, fun x hx hr hm => ?_, ?_⟩, ?_⟩
        · dsimp only at hr hm ⊢
          by_cases e : (x : Int) = at'
          · have := m1.done
            rw [Nat.zero_add] at this
            rw [show x = at'.toNat by omega]; exact this
          · exact m1.rest x hx hr (by simp at hm ⊢; exact ⟨e, hm⟩)
        · simp only [meas, List.length_cons] at m2 ⊢; omega
        · simp only [meas, List.length_cons] at m2 ⊢; omega
      · rw [if_neg ht]
        right; left
        exact ⟨_, rfl, _, rfl, h, .inr (by dsimp only; omega)⟩) (n := 1000000) h0 (by have := h0.m; omega)
  obtain ⟨σ', rfl, h1, h2⟩ := hq
  exact ⟨σ', e, h1, h2⟩
theorem StepR.range {n : Net} {f : List Int} {st : Step} {x y : Int} (hn : OkNet n) (h : StepR n.as f st x y) : (0 ≤ x ∧ x < n.n) ∧ 0 ≤ y ∧ y < n.n := by
  have hG := hn.arc h.a1
  have := hG.f0; have := hG.f1; have := hG.t0; have := hG.t1
  cases e : st.back with
  | true => obtain ⟨e1, e2, _⟩ := h.bw e; omega
  | false => obtain ⟨e1, e2, _⟩ := h.fw e; omega
theorem StepR.room {n : Net} {f : List Int} {st : Step} {x y : Int} (hw : WIn n f) (h : StepR n.as f st x y) : 1 ≤ roomR n.as f st ∧ roomR n.as f st ≤ 10000 := by
  have hG := hw.net.arc h.a1
  have := hG.c0; have := hG.c1; have := hw.r st.arc.toNat (by rw [hw.len]; exact h.a1)
  unfold roomR
  cases e : st.back with
  | true => obtain ⟨e1, e2, _⟩ := h.bw e; rw [if_pos rfl]; omega
  | false => obtain ⟨e1, e2, _⟩ := h.fw e; rw [if_neg (by decide)]; omega
structure Trail (n : Net) (f : List Int) (l : List Step) (r : Int) : Prop where
  pos : 0 < r
  big : r ≤ 10000
  nd : ∃ nd : Nat → Int, nd 0 = n.t ∧ nd l.length = n.s ∧ ∀ i, i < l.length → StepR n.as f (l.getD i El.d) (nd (i + 1)) (nd i)
  room : ∀ i, i < l.length → r ≤ roomR n.as f (l.getD i El.d)
  apart : ∀ i j, i < j → j < l.length → (l.getD i El.d).arc ≠ (l.getD j El.d).arc
structure Part (n : Net) (f : List Int) (by' : Nat → Step) (fr : Nat → Int) (K : Nat) (nd : Nat → Int) (σ : List Step × Int × Int) : Prop where
  z : nd 0 = n.t
  e : nd σ.1.length = σ.2.2
  st : ∀ i, i < σ.1.length → StepR n.as f (σ.1.getD i El.d) (nd (i + 1)) (nd i) ∧ σ.2.1 ≤ roomR n.as f (σ.1.getD i El.d)
  tree : ∀ i, i ≤ σ.1.length → Tree n.as f n.s by' fr (K - i) (nd i)
  len : σ.1.length ≤ K
  pos : 1 ≤ σ.2.1
  big : σ.2.1 ≤ 10000
theorem getD_snoc {α : Type} (l : List α) (a d : α) (i : Nat) : (l ++ [a]).getD i d = if i < l.length then l.getD i d else if i = l.length then a else d := by
  simp only [List.getD_eq_getElem?_getD, List.getElem?_append]
  split
  · rfl
  · split
    · rename_i h; subst h; simp
    · rename_i h1 h2; rw [List.getElem?_eq_none (by simp; omega)]; rfl
theorem Part.snoc {n : Net} {f : List Int} {by' : Nat → Step} {fr : Nat → Int} {K : Nat} {nd : Nat → Int} {l : List Step} {room x : Int} (hw : WIn n f) (h : Part n f by' fr K nd (l, room, x)) (hx : x ≠ n.s) :
    StepR n.as f (by' x.toNat) (fr x.toNat) x ∧ l.length < K ∧ Part n f by' fr K (fun i => if i ≤ l.length then nd i else fr x.toNat) (l ++ [by' x.toNat], min room (roomR n.as f (by' x.toNat)), fr x.toNat) := by
  have hT := h.tree l.length (Nat.le_refl _)
  have hlen := h.len
  have he := h.e
  have hp := h.pos; have hb := h.big
  dsimp only at hlen he hp hb
  rw [he] at hT
  generalize hk : K - l.length = kk at hT
  cases hT with
  | root => exact absurd rfl hx
  | @step k _ _ h0 hs ht =>
    have hr := hs.room hw
    refine ⟨hs, by omega, ⟨?_, ?_, fun i hi => ?_, fun i hi => ?_, by simp; omega, by dsimp only; omega, by dsimp only; omega⟩⟩
    · rw [if_pos (Nat.zero_le _)]; exact h.z
    · rw [if_neg (by simp)]
    · dsimp only at hi ⊢
      simp only [List.length_append, List.length_cons, List.length_nil] at hi
      rw [getD_snoc]
      by_cases e : i < l.length
      · rw [if_pos e, if_pos (by omega), if_pos (by omega)]
        obtain ⟨q1, q2⟩ := h.st i e
        dsimp only at q1 q2
        exact ⟨q1, by omega⟩
      · rw [if_neg e, if_pos (by omega), if_neg (by omega), if_pos (by omega), show i = l.length by omega, he]
        exact ⟨hs, by omega⟩
    · dsimp only at hi ⊢
      simp only [List.length_append, List.length_cons, List.length_nil] at hi
      by_cases e : i ≤ l.length
      · rw [if_pos e]; exact h.tree i e
      · rw [if_neg e, show K - i = k by omega]; exact ht
theorem root_only {n : Net} {f : List Int} {by' : Nat → Step} {fr : Nat → Int} {K i : Nat} {x : Int} (hi : i ≤ ([] : List Step).length) (ht : Tree n.as f n.s by' fr K x) : Tree n.as f n.s by' fr (K - i) x := by
  obtain rfl : i = 0 := by simpa using hi
  exact ht
theorem way_path {n : Net} {f : List Int} (hw : WIn n f) {by' : Nat → Step} {fr : Nat → Int} {K : Nat} (hK : K < 12) (ht : Tree n.as f n.s by' fr K n.t) :
    ∃ l r, loopC (most_way_B4 n f by' fr) 1000000 ([], 10000, n.t) = some (.go (l, r, n.s)) ∧ Trail n f l r := by
  have hn := hw.net
  have n12 := hn.g.n1
  dsimp only at n12
  have hlen := hw.len
  obtain ⟨q, e, hq⟩ := loopC_or (f := most_way_B4 n f by' fr) (fun σ => ∃ nd, Part n f by' fr K nd σ) (fun q => ∃ l r nd, q = .go (l, r, n.s) ∧ Part n f by' fr K nd (l, r, n.s)) (fun σ => K - σ.1.length) (fun σ ⟨nd, h⟩ => by
    obtain ⟨l, room, x⟩ := σ
    unfold most_way_B4
    dsimp only
    by_cases hx : x = n.s
    · rw [if_neg (by simpa using hx)]
      subst hx
      exact .inr (.inl ⟨_, rfl, l, room, nd, rfl, h⟩)
    · rw [if_pos hx]
      obtain ⟨hs, hl, hP⟩ := h.snoc hw hx
      have hR := hs.range hn
      have hroom := hs.room hw
      have hll := h.len
      dsimp only at hll
      have a0 := hs.a0; have a1 := hs.a1
      left
      rw [ck_some (by omega), ck_some (by omega)]
      unfold roomR at hP hroom
      cases hb : (by' x.toNat).back with
      | true =>
        rw [if_pos rfl, ck_some (by omega)]
        rw [hb, if_pos rfl] at hP
        exact ⟨_, rfl, ⟨_, hP⟩, by simp; omega⟩
      | false =>
        rw [hb, if_neg (by decide)] at hP hroom
        rw [if_neg (by decide), ck_some (by omega), ck_some (by omega), ck_some (inI_small (by omega) (by omega))]
        exact ⟨_, rfl, ⟨_, hP⟩, by simp; omega⟩) (n := 1000000) (s := ([], 10000, n.t)) ⟨fun _ => n.t, rfl, rfl, fun i hi => absurd hi (by simp), fun i hi => root_only hi ht, by simp, by dsimp only; omega, by dsimp only; omega⟩ (by dsimp only [List.length_nil]; omega)
  obtain ⟨l, r, nd, rfl, h⟩ := hq
  refine ⟨l, r, e, by have := h.pos; dsimp only at this; omega, h.big, ⟨nd, h.z, h.e, fun i hi => (h.st i hi).1⟩, fun i hi => (h.st i hi).2, fun i j hij hj ha => ?_⟩
  have hlen' := h.len
  dsimp only at hlen'
  have s1 := (h.st i (show i < l.length by omega)).1
  have s2 := (h.st j hj).1
  dsimp only at s1 s2
  have T := h.tree
  dsimp only at T
  have same : ∀ {a b : Nat}, a ≤ l.length → b ≤ l.length → nd a = nd b → a = b := fun {a b} h1 h2 he => by
    have t1 := T a h1
    rw [he] at t1
    have := t1.depth (T b h2)
    omega
  cases b1 : (l.getD i El.d).back with
  | true =>
    cases b2 : (l.getD j El.d).back with
    | true =>
      have := same (a := i) (b := j) (by omega) (by omega) (by rw [← (s1.bw b1).2.1, ← (s2.bw b2).2.1, ha])
      omega
    | false =>
      have e1 := same (a := i + 1) (b := j) (by omega) (by omega) (by rw [← (s1.bw b1).1, ← (s2.fw b2).2.1, ha])
      have e2 := same (a := i) (b := j + 1) (by omega) (by omega) (by rw [← (s1.bw b1).2.1, ← (s2.fw b2).1, ha])
      omega
  | false =>
    cases b2 : (l.getD j El.d).back with
    | true =>
      have e1 := same (a := i + 1) (b := j) (by omega) (by omega) (by rw [← (s1.fw b1).1, ← (s2.bw b2).2.1, ha])
      have e2 := same (a := i) (b := j + 1) (by omega) (by omega) (by rw [← (s1.fw b1).2.1, ← (s2.bw b2).1, ha])
      omega
    | false =>
      have := same (a := i) (b := j) (by omega) (by omega) (by rw [← (s1.fw b1).2.1, ← (s2.fw b2).2.1, ha])
      omega
theorem way_init : forN (most_way_B1) 12 0 (fun _ => (0 : Int) : Nat → Int) = some (fun x => if x < 12 then -1 else 0) := by
  obtain ⟨s, h1, h2⟩ := forN_inv (f := most_way_B1) (fun j s => ∀ x, s x = if x < j then -1 else 0) (n := 12) (k := 0) (s := (fun _ => (0 : Int))) (fun x => by simp) fun j s _ hj hs => ⟨_, rfl, fun x => by
    unfold updF
    by_cases e : x = j
    · subst e; rw [if_pos rfl, if_pos (by omega)]
    · rw [if_neg e, hs x]
      by_cases h : x < j
      · rw [if_pos h, if_pos (by omega)]
      · rw [if_neg h, if_neg (by omega)]⟩
  rw [h1]
  congr 1
  funext x
  exact h2 x
theorem way_spec {n : Net} {f : List Int} (hw : WIn n f) : (most_way_F n f = some ([], 0) ∧ ∃ S, Cut n S ∧ Tight n f S) ∨ ∃ l r, most_way_F n f = some (l, r) ∧ Trail n f l r := by
  have hn := hw.net
  have n12 := hn.g.n1; have s0 := hn.s0; have s1 := hn.s1; have t0 := hn.t0; have t1 := hn.t1
  dsimp only at n12
  unfold most_way_F
  rw [way_init, bind_some', ck_some (by omega)]
  have fr0 : ∀ x : Nat, updF (fun x => if x < 12 then -1 else 0) n.s.toNat n.s x = if x = n.s.toNat then n.s else if x < 12 then -1 else 0 := fun x => rfl
  have h0 : Out n f ((fun _ => El.d : Nat → Step), (updF (fun x => if x < 12 then -1 else 0) n.s.toNat n.s), ([n.s] : List Int)) := by
    refine ⟨⟨?_, fun x hx hr => ?_, fun x hx hr => ?_, fun y hy => ?_⟩, fun x hx hr hm => ?_, ?_⟩
    · dsimp only; rw [fr0, if_pos rfl]
    · dsimp only at hr ⊢
      rw [fr0] at hr
      by_cases e : x = n.s.toNat
      · refine ⟨by omega, 0, ?_, ?_⟩
        · rw [show ((x : Nat) : Int) = n.s by omega]
          exact .root (by rw [fr0, if_pos rfl]; exact s0)
        · exact cnt_pos (y := n.s.toNat) (by omega) (by simp only [reach]; rw [fr0, if_pos rfl]; simpa using s0)
      · rw [if_neg e, if_pos hx] at hr; omega
    · dsimp only at hr ⊢
      rw [fr0] at hr ⊢
      by_cases e : x = n.s.toNat
      · rw [if_pos e] at hr; omega
      · rw [if_neg e, if_pos hx]
    · obtain rfl := List.mem_singleton.1 hy
      exact ⟨s0, s1, by dsimp only; rw [fr0, if_pos rfl]; exact s0⟩
    · dsimp only at hr hm
      rw [fr0] at hr
      by_cases e : x = n.s.toNat
      · exact absurd (List.mem_singleton.2 (by omega)) hm
      · rw [if_neg e, if_pos hx] at hr; omega
    · have : 1 ≤ cnt (reach (updF (fun x => if x < 12 then -1 else 0) n.s.toNat n.s)) 12 := cnt_pos (y := n.s.toNat) (by omega) (by simp only [reach]; rw [fr0, if_pos rfl]; simpa using s0)
      simp only [meas, List.length_cons, List.length_nil]; omega
  obtain ⟨⟨by', fr, l⟩, e, hO, hend⟩ := way_search hw h0
  rw [e, bind_some']
  dsimp only at hend ⊢
  rw [ck_some (by omega)]
  by_cases ht : fr n.t.toNat < 0
  · rw [if_pos ht]
    left
    have hl : l = [] := hend.resolve_right (by omega)
    subst hl
    refine ⟨rfl, fun x => if 0 ≤ x ∧ x < 12 ∧ 0 ≤ fr x.toNat then 1 else 0, ⟨?_, ?_, fun x => ?_⟩, ⟨fun k hk e1 e2 => ?_, fun k hk e1 e2 => ?_⟩⟩
    · have := hO.bfs.s
      dsimp only at this
      rw [if_pos (by omega)]
    · rw [if_neg (by omega)]
    · split
      · exact .inr rfl
      · exact .inl rfl
    · have hG := hn.small hk
      have hr := hw.r k (by rw [hw.len]; exact hk)
      refine Classical.byContradiction fun hne => ?_
      have c1 : 0 ≤ (n.as.getD k El.d).f ∧ (n.as.getD k El.d).f < 12 ∧ 0 ≤ fr (n.as.getD k El.d).f.toNat := Classical.byContradiction fun c => by rw [if_neg c] at e1; omega
      have c2 : ¬ (0 ≤ (n.as.getD k El.d).t ∧ (n.as.getD k El.d).t < 12 ∧ 0 ≤ fr (n.as.getD k El.d).t.toNat) := fun c => by rw [if_pos c] at e2; omega
      have := hO.rest (n.as.getD k El.d).f.toNat (by omega) c1.2.2 (by simp) k hk (n.as.getD k El.d).t.toNat (.inl ⟨by omega, by omega, by omega⟩)
      dsimp only at this
      omega
    · have hG := hn.small hk
      have hr := hw.r k (by rw [hw.len]; exact hk)
      refine Classical.byContradiction fun hne => ?_
      have c1 : 0 ≤ (n.as.getD k El.d).t ∧ (n.as.getD k El.d).t < 12 ∧ 0 ≤ fr (n.as.getD k El.d).t.toNat := Classical.byContradiction fun c => by rw [if_neg c] at e2; omega
      have c2 : ¬ (0 ≤ (n.as.getD k El.d).f ∧ (n.as.getD k El.d).f < 12 ∧ 0 ≤ fr (n.as.getD k El.d).f.toNat) := fun c => by rw [if_pos c] at e1; omega
      have := hO.rest (n.as.getD k El.d).t.toNat (by omega) c1.2.2 (by simp) k hk (n.as.getD k El.d).f.toNat (.inr ⟨by omega, by omega, by omega⟩)
      dsimp only at this
      omega
  · rw [if_neg ht]
    right
    obtain ⟨_, K, hK, hc⟩ := hO.bfs.tree n.t.toNat (by omega) (by dsimp only; omega)
    rw [show ((n.t.toNat : Nat) : Int) = n.t by omega] at hK
    have := cnt_le (reach fr) 12
    dsimp only at hK hc
    obtain ⟨l, r, e2, hT⟩ := way_path hw (by omega) hK
    rw [e2, bind_some']
    exact ⟨l, r, rfl, hT⟩
theorem netAt_set {L : List Arc} {g : List Int} {k : Nat} (hk : k < L.length) (hl : g.length = L.length) (v z : Int) :
    netAt L (g.set k v) z = netAt L g z + (v - g.getD k 0) * ((if (L.getD k El.d).f = z then 1 else 0) - (if (L.getD k El.d).t = z then 1 else 0)) := by
  unfold netAt
  have e : tot (term L (g.set k v) z) L.length = tot (fun i => term L g z i + if i = k then (v - g.getD k 0) * ((if (L.getD k El.d).f = z then 1 else 0) - (if (L.getD k El.d).t = z then 1 else 0)) else 0) L.length := tot_congr fun i hi => by
    unfold term
    by_cases e : i = k
    · have hg : (g.set k v).getD k 0 = v := by rw [getD_set', if_pos ⟨rfl, by omega⟩]
      rw [if_pos e, e, hg]
      by_cases h1 : (L.getD k El.d).f = z
      · rw [if_pos h1, if_pos h1, if_pos h1]
        by_cases h2 : (L.getD k El.d).t = z
        · rw [if_pos h2, if_pos h2, if_pos h2]; omega
        · rw [if_neg h2, if_neg h2, if_neg h2]; omega
      · rw [if_neg h1, if_neg h1, if_neg h1]
        by_cases h2 : (L.getD k El.d).t = z
        · rw [if_pos h2, if_pos h2, if_pos h2]; omega
        · rw [if_neg h2, if_neg h2, if_neg h2]; omega
    · have hg : (g.set k v).getD i 0 = g.getD i 0 := by rw [getD_set', if_neg (fun h => e h.1)]
      rw [hg, if_neg e]; omega
  rw [e, tot_add, tot_single hk (fun i _ hi => if_neg hi), if_pos rfl]
structure Aug (n : Net) (f : List Int) (l : List Step) (r : Int) (nd : Nat → Int) (j : Nat) (g : List Int) : Prop where
  len : g.length = n.as.length
  old : ∀ k, k < n.as.length → (∀ i, i < j → (l.getD i El.d).arc ≠ k) → g.getD k 0 = f.getD k 0
  rg : ∀ k, k < n.as.length → 0 ≤ g.getD k 0 ∧ g.getD k 0 ≤ (n.as.getD k El.d).c
  net : ∀ z, netAt n.as g z = netAt n.as f z + r * ((if nd j = z then 1 else 0) - (if n.t = z then 1 else 0))
theorem aug_step {n : Net} {f : List Int} (hw : WIn n f) {l : List Step} {r : Int} {nd : Nat → Int} (hT : Trail n f l r) (hst : ∀ i, i < l.length → StepR n.as f (l.getD i El.d) (nd (i + 1)) (nd i)) {j : Nat} (hj : j < l.length) {g : List Int} (h : Aug n f l r nd j g) :
    ∃ g', most_More_B2 l r j g = some g' ∧ Aug n f l r nd (j + 1) g' := by
  have hs := hst j hj
  have a0 := hs.a0; have a1 := hs.a1
  have hG := hw.net.arc a1
  have c0 := hG.c0; have c1 := hG.c1
  have hrj := hT.room j hj
  have hpos := hT.pos; have hbig := hT.big
  have hgl := h.len
  have hgr := h.rg (l.getD j El.d).arc.toNat a1
  have hold := h.old (l.getD j El.d).arc.toNat a1 fun i hi e => hT.apart i j hi hj (by omega)
  unfold most_More_B2
  have rest : ∀ v : Int, 0 ≤ v → v ≤ (n.as.getD (l.getD j El.d).arc.toNat El.d).c → (∀ z, (v - g.getD (l.getD j El.d).arc.toNat 0) * ((if (n.as.getD (l.getD j El.d).arc.toNat El.d).f = z then 1 else 0) - (if (n.as.getD (l.getD j El.d).arc.toNat El.d).t = z then 1 else 0)) = r * ((if nd (j + 1) = z then 1 else 0) - (if nd j = z then 1 else 0))) → Aug n f l r nd (j + 1) (g.set (l.getD j El.d).arc.toNat v) := fun v v0 v1 hv => by
    refine ⟨by simp [hgl], fun k hk hi => ?_, fun k hk => ?_, fun z => ?_⟩
    · rw [getD_set', if_neg (fun e => hi j (by omega) (by omega))]
      exact h.old k hk fun i hi' => hi i (by omega)
    · rw [getD_set']
      by_cases e : k = (l.getD j El.d).arc.toNat
      · rw [if_pos ⟨e, by omega⟩, e]; exact ⟨v0, v1⟩
      · rw [if_neg (fun q => e q.1)]; exact h.rg k hk
    · rw [netAt_set a1 hgl, h.net z, hv z, Int.mul_sub, Int.mul_sub, Int.mul_sub]; omega
  cases hb : (l.getD j El.d).back with
  | true =>
    obtain ⟨e1, e2, e3⟩ := hs.bw hb
    unfold roomR at hrj
    rw [hb, if_pos rfl] at hrj
    rw [if_pos rfl, ck_some (by omega), ck_some (inI_small (by omega) (by omega))]
    refine ⟨_, rfl, rest _ (by omega) (by omega) fun z => ?_⟩
    rw [e1, e2, show g.getD (l.getD j El.d).arc.toNat 0 - r - g.getD (l.getD j El.d).arc.toNat 0 = -r by omega, Int.neg_mul, ← Int.mul_neg]
    congr 1; omega
  | false =>
    obtain ⟨e1, e2, e3⟩ := hs.fw hb
    unfold roomR at hrj
    rw [hb, if_neg (by decide)] at hrj
    rw [if_neg (by decide), ck_some (by omega), ck_some (inI_small (by omega) (by omega))]
    refine ⟨_, rfl, rest _ (by omega) (by omega) fun z => ?_⟩
    rw [e1, e2, show g.getD (l.getD j El.d).arc.toNat 0 + r - g.getD (l.getD j El.d).arc.toNat 0 = r by omega]
theorem augment {n : Net} {f : List Int} (hf : Flow n f) {l : List Step} {r : Int} (hT : Trail n f l r) : ∃ g, forN (most_More_B2 l r) l.length 0 f = some g ∧ Flow n g ∧ netAt n.as g n.s = netAt n.as f n.s + r := by
  obtain ⟨nd, z0, z1, hst⟩ := hT.nd
  obtain ⟨g, e, hg⟩ := forN_inv (f := most_More_B2 l r) (fun j g => Aug n f l r nd j g) (n := l.length) (k := 0) (s := f) ⟨hf.len, fun k _ _ => rfl, fun k hk => hf.r k (by rw [hf.len]; exact hk), fun z => by rw [z0, Int.sub_self, Int.mul_zero, Int.add_zero]⟩ fun j g _ hj h => aug_step hf.win hT hst (by omega) h
  rw [Nat.zero_add] at hg
  have hn := hf.net
  refine ⟨g, e, ⟨hn, hg.len, fun k hk => hg.rg k (by rw [← hg.len]; exact hk), fun x hx h1 h2 => ?_⟩, ?_⟩
  · rw [hg.net, z1, if_neg (fun e => h1 e.symm), if_neg (fun e => h2 e.symm), Int.sub_self, Int.mul_zero, Int.add_zero]; exact hf.keep x hx h1 h2
  · rw [hg.net, z1, if_pos rfl, if_neg (fun e => hn.ne e.symm)]; omega
def capOut (n : Net) : Int := tot (fun k => if (n.as.getD k El.d).f = n.s then (n.as.getD k El.d).c else 0) n.as.length
theorem Flow.le_capOut {n : Net} {f : List Int} (h : Flow n f) : netAt n.as f n.s ≤ capOut n ∧ capOut n - netAt n.as f n.s ≤ 600000 := by
  have hlen := h.net.g.len
  dsimp only at hlen
  have each : ∀ k, k < n.as.length → 0 ≤ (if (n.as.getD k El.d).f = n.s then (n.as.getD k El.d).c else 0) - term n.as f n.s k ∧ (if (n.as.getD k El.d).f = n.s then (n.as.getD k El.d).c else 0) - term n.as f n.s k ≤ 10000 := fun k hk => by
    have hG := h.net.arc hk
    have := hG.c0; have := hG.c1
    have := h.r k (by rw [h.len]; exact hk)
    unfold term
    split <;> split <;> omega
  have e : capOut n - netAt n.as f n.s = tot (fun k => (if (n.as.getD k El.d).f = n.s then (n.as.getD k El.d).c else 0) - term n.as f n.s k) n.as.length := by unfold capOut netAt; rw [tot_sub]
  have h1 := tot_nonneg (f := fun k => (if (n.as.getD k El.d).f = n.s then (n.as.getD k El.d).c else 0) - term n.as f n.s k) (n := n.as.length) fun k hk => (each k hk).1
  have h2 := (tot_abs (f := fun k => (if (n.as.getD k El.d).f = n.s then (n.as.getD k El.d).c else 0) - term n.as f n.s k) (M := 10000) (n := n.as.length) fun k hk => ⟨by have := (each k hk).1; omega, (each k hk).2⟩).2
  constructor <;> omega
theorem Flow.value_le {n : Net} {f : List Int} (h : Flow n f) (x : Int) : -600000 ≤ netAt n.as f x ∧ netAt n.as f x ≤ 600000 := by
  have hlen := h.net.g.len
  dsimp only at hlen
  have := tot_abs (f := term n.as f x) (M := 10000) (n := n.as.length) fun i hi => h.term_le x hi
  unfold netAt
  omega
theorem more_ok {n : Net} {f : List Int} (hf : Flow n f) : ∃ g v, most_More_F n f = some (g, v, 0) ∧ Flow n g ∧ netAt n.as g n.s = v ∧ ∃ S, Cut n S ∧ Tight n g S := by
  have hlen := hf.net.g.len
  dsimp only at hlen
  have hfl := hf.len
  unfold most_More_F
  rw [value_ok hf, bind_some']
  dsimp only
  rw [if_neg (by decide), ck_some (by omega), List.nil_append]
  obtain ⟨q, e, hq⟩ := loopC_or (f := most_More_B1 n) (fun σ => Flow n σ.2 ∧ σ.1 = netAt n.as σ.2 n.s) (fun q => ∃ g v, q = .ret (g, v, 0) ∧ Flow n g ∧ netAt n.as g n.s = v ∧ ∃ S, Cut n S ∧ Tight n g S) (fun σ => (capOut n - σ.1).toNat) (fun σ ⟨h, hv⟩ => by
    obtain ⟨v, g⟩ := σ
    dsimp only at h hv
    unfold most_More_B1
    dsimp only
    rcases way_spec h.win with ⟨e, S, h1, h2⟩ | ⟨l, r, e, hT⟩
    · right; right
      rw [e, bind_some']
      dsimp only
      rw [if_pos rfl]
      exact ⟨_, rfl, g, v, rfl, h, hv.symm, S, h1, h2⟩
    · left
      have hp := hT.pos; have hb := hT.big
      obtain ⟨g', e2, h3, h4⟩ := augment h hT
      have b := h.value_le n.s
      have b2 := h3.le_capOut
      rw [e, bind_some']
      dsimp only
      rw [if_neg (by omega), e2, bind_some', ck_some (inI_small (by omega) (by omega))]
      exact ⟨_, rfl, ⟨h3, by dsimp only; omega⟩, by dsimp only; omega⟩) (n := 1000000) (s := (netAt n.as f n.s, f)) ⟨hf, rfl⟩ (by have := hf.le_capOut; dsimp only; omega)
  obtain ⟨g, v, rfl, h1, h2, h3⟩ := hq
  rw [e, bind_some']
  exact ⟨g, v, rfl, h1, h2, h3⟩
theorem flow_zero {n : Net} (hn : OkNet n) : Flow n (List.replicate n.as.length 0) := by
  refine ⟨hn, by simp, fun k hk => ?_, fun x _ _ _ => ?_⟩
  · have hk' : k < n.as.length := by simpa using hk
    have := (hn.arc hk').c0
    rw [getD_replicate', if_pos hk']
    omega
  · unfold netAt
    refine tot_zero fun k hk => ?_
    unfold term
    rw [getD_replicate', if_pos hk]
    split <;> split <;> rfl
theorem of_ok {n : Net} (hn : OkNet n) : ∃ g v, most_Of_F n = some (g, v, 0) ∧ Flow n g ∧ netAt n.as g n.s = v ∧ ∃ S, Cut n S ∧ Tight n g S := by
  have hlen := hn.g.len
  dsimp only at hlen
  have hc : graph_CheckNet_F n = some 0 := by
    rcases checkNet_cases n with ⟨_, h⟩ | ⟨h, _⟩
    · exact h
    · exact absurd hn h
  obtain ⟨g, v, e, h⟩ := more_ok (flow_zero hn)
  unfold most_Of_F
  rw [hc, bind_some', if_neg (by decide), ck_some ⟨by omega, by omega⟩]
  simp only [Int.toNat_natCast]
  rw [e]
  exact ⟨g, v, rfl, h⟩
theorem of_max {n : Net} (hn : OkNet n) : ∃ g v, most_Of_F n = some (g, v, 0) ∧ Flow n g ∧ netAt n.as g n.s = v ∧ MaxV n v := by
  obtain ⟨g, v, e, h1, h2, S, h3, h4⟩ := of_ok hn
  exact ⟨g, v, e, h1, h2, ⟨g, h1, h2⟩, S, h3, by rw [← h2]; exact (h1.eq_cut h3 h4).symm⟩
end Go.Proofs.Ytkfmphlnpmemdaa
