/- Package graph, slices: what the functions answer. -/
import Derived.Test.YtgkcmjmofcekmaaPlA
import Derived.Test.YtgkcmjmofcekmaaGgraph
import Derived.Test.YtgkcmjmofcekmaaGslices
namespace Go.Proofs.Ytgkcmjmofcekmaa
open Go Go.Proofs.Ytgkcmjmofcekmaa.Sx
set_option linter.unusedVariables false
set_option linter.unusedSimpArgs false

def checkL (n least : Int) : List Arc → Int
  | [] => 0
  | a :: r => if a.f < 0 ∨ n ≤ a.f ∨ a.t < 0 ∨ n ≤ a.t then 4 else if a.c < least ∨ 10000 < a.c then 1 else checkL n least r
def checkF (g : Graph) (least : Int) : Int := if g.n < 1 ∨ 12 < g.n then 1 else if 60 < g.as.length then 2 else checkL g.n least g.as
/-- An arc of a right graph. -/
structure Good (n least : Int) (a : Arc) : Prop where
  f0 : 0 ≤ a.f
  f1 : a.f < n
  t0 : 0 ≤ a.t
  t1 : a.t < n
  c0 : least ≤ a.c
  c1 : a.c ≤ 10000
structure OkL (g : Graph) (least : Int) : Prop where
  n0 : 1 ≤ g.n
  n1 : g.n ≤ 12
  len : g.as.length ≤ 60
  arc : ∀ a, a ∈ g.as → Good g.n least a
abbrev Ok (g : Graph) : Prop := OkL g (-10000)
theorem checkL_ok (n least : Int) : ∀ l : List Arc, checkL n least l = 0 ↔ ∀ a, a ∈ l → Good n least a
  | [] => by simp [checkL]
  | a :: r => by
    rw [checkL]
    constructor
    · intro h
      split at h
      · omega
      · split at h
        · omega
        · rename_i h1 h2
          intro b hb
          rcases List.mem_cons.1 hb with rfl | hb
          · exact ⟨by omega, by omega, by omega, by omega, by omega, by omega⟩
          · exact (checkL_ok n least r).1 h b hb
    · intro h
      have ha := h a (by simp)
      have := ha.f0; have := ha.f1; have := ha.t0; have := ha.t1; have := ha.c0; have := ha.c1
      rw [if_neg (by omega), if_neg (by omega)]
      exact (checkL_ok n least r).2 fun b hb => h b (by simp [hb])
theorem checkF_ok (g : Graph) (least : Int) : checkF g least = 0 ↔ OkL g least := by
  unfold checkF
  constructor
  · intro h
    split at h
    · omega
    · split at h
      · omega
      · exact ⟨by omega, by omega, by omega, (checkL_ok _ _ _).1 h⟩
  · intro h
    have := h.n0; have := h.n1; have := h.len
    rw [if_neg (by omega), if_neg (by omega)]
    exact (checkL_ok _ _ _).2 h.arc
theorem check_loop (g : Graph) (least : Int) : ∀ n k, k + n = g.as.length →
    (forC (graph_check_B1 g least) n k () = some (.go ()) ∧ checkL g.n least (g.as.drop k) = 0) ∨ (∃ e, forC (graph_check_B1 g least) n k () = some (.ret e) ∧ checkL g.n least (g.as.drop k) = e)
  | 0, k, h => .inl ⟨rfl, by rw [List.drop_eq_nil_of_le (by omega)]; rfl⟩
  | n + 1, k, h => by
    have ih := check_loop g least n (k + 1) (by omega)
    rw [drop_getD El.d (show k < g.as.length by omega), checkL, forC]
    unfold graph_check_B1
    generalize g.as.getD k El.d = a
    by_cases h1 : a.f < 0
    · right; exact ⟨4, by simp [h1], by simp [h1]⟩
    by_cases h2 : g.n ≤ a.f
    · right; exact ⟨4, by simp [h1, h2], by simp [h2]⟩
    by_cases h3 : a.t < 0
    · right; exact ⟨4, by simp [h1, h2, h3], by simp [h3]⟩
    by_cases h4 : g.n ≤ a.t
    · right; exact ⟨4, by simp [h1, h2, h3, h4], by simp [h4]⟩
    by_cases h5 : a.c < least
    · right; exact ⟨1, by simp [h1, h2, h3, h4, h5], by simp [h1, h2, h3, h4, h5]⟩
    by_cases h6 : 10000 < a.c
    · right; exact ⟨1, by simp [h1, h2, h3, h4, h5, h6], by simp [h1, h2, h3, h4, h5, h6]⟩
    rcases ih with ⟨i1, i2⟩ | ⟨e, i1, i2⟩
    · left; exact ⟨by simp only [h1, h2, h3, h4, h5, h6, if_false, bind_some']; exact i1, by simp [h1, h2, h3, h4, h5, h6, i2]⟩
    · right; exact ⟨e, by simp only [h1, h2, h3, h4, h5, h6, if_false, bind_some']; exact i1, by simp [h1, h2, h3, h4, h5, h6, i2]⟩
theorem check_eq (g : Graph) (least : Int) : graph_check_F g least = some (checkF g least) := by
  unfold graph_check_F checkF
  by_cases h1 : g.n < 1
  · simp [h1]
  by_cases h2 : 12 < g.n
  · simp [h1, h2]
  by_cases h3 : 60 < g.as.length
  · rw [if_neg h1, if_neg h2, if_pos (by omega), if_neg (by omega), if_pos h3]
  · rw [if_neg h1, if_neg h2, if_neg (by omega), if_neg (by omega), if_neg h3]
    rcases check_loop g least g.as.length 0 (by omega) with ⟨i1, i2⟩ | ⟨e, i1, i2⟩
    · rw [i1]; rw [List.drop_zero] at i2; rw [i2]; rfl
    · rw [i1]; rw [List.drop_zero] at i2; rw [i2]; rfl
theorem check0_eq (g : Graph) : graph_Check_F g = some (checkF g 0) := by
  unfold graph_Check_F; rw [check_eq]; rfl

/-! ### slices -/
theorem clone_eq {l : List Arc} (h : l.length ≤ 1000000000) : slices_Clone_Arc_F l = some l := by
  unfold slices_Clone_Arc_F; rw [ck_some (by omega)]; rfl
theorem arc_ext {a b : Arc} : (a.f = b.f ∧ a.t = b.t ∧ a.c = b.c) ↔ a = b := by cases a; cases b; simp
theorem equalInts_eq (l m : List Int) : slices_Equal_int_F l m = some (decide (l = m)) := by
  unfold slices_Equal_int_F
  by_cases hl : l.length = m.length
  · rw [if_neg (by omega)]
    have : ∃ q, forC (slices_Equal_int_B1 l m) l.length 0 () = some q ∧ (∀ x, q = .ret x → x = decide (l = m)) ∧ (q = .go () → l = m) := by
      refine forC_or (fun k _ => ∀ i, i < k → l.getD i 0 = m.getD i 0) (fun q => (∀ x, q = .ret x → x = decide (l = m)) ∧ (q = .go () → l = m)) (fun i h => absurd h (by omega)) (fun j s _ hj hI => ?_) fun s h => ⟨fun x e => (by cases e), fun _ => eq_of_getD hl fun i hi => h i (by omega)⟩
      unfold slices_Equal_int_B1
      rw [ck_some (by omega)]
      by_cases he : l.getD j 0 = m.getD j 0
      · left
        refine ⟨(), by rw [if_neg]; exact fun h => h he, fun i hi => ?_⟩
        by_cases h : i = j
        · subst h; exact he
        · exact hI i (by omega)
      · right; right
        refine ⟨false, by rw [if_pos he], fun x e => ?_, fun e => by cases e⟩
        injection e with e; subst e
        exact (decide_eq_false fun e => he (by rw [e])).symm
    obtain ⟨q, h1, h2, h3⟩ := this
    rw [h1]
    cases q with
    | go s => simp [h3 rfl]
    | ret x => simp [h2 x rfl]
  · rw [if_pos (by omega), decide_eq_false fun e => hl (by rw [e])]
/-! ### Turn, Degrees, Without -/
def turnA (a : Arc) : Arc := ⟨a.t, a.f, a.c⟩
theorem Good.turn {n least : Int} {a : Arc} (h : Good n least a) : Good n least (turnA a) := ⟨h.t0, h.t1, h.f0, h.f1, h.c0, h.c1⟩
theorem OkL.turn {g : Graph} {least : Int} (h : OkL g least) : OkL ⟨g.n, g.as.map turnA⟩ least :=
  ⟨h.n0, h.n1, by simpa using h.len, fun a ha => by
    obtain ⟨b, hb, rfl⟩ := List.mem_map.1 ha
    exact (h.arc b hb).turn⟩
@[simp] theorem turn_turn (l : List Arc) : (l.map turnA).map turnA = l := by
  rw [List.map_map]
  exact List.map_id'' (fun a => by cases a; rfl) l
/-- how many arcs lead from node i, and to it -/
def outs (l : List Arc) (i : Int) : Int := (l.countP fun a => a.f == i : Nat)
def inns (l : List Arc) (i : Int) : Int := (l.countP fun a => a.t == i : Nat)
def nodes (f : Int → Int) (n : Int) : List Int := (List.range n.toNat).map fun (i : Nat) => f (i : Int)
theorem nodes_len (f : Int → Int) (n : Int) : (nodes f n).length = n.toNat := by simp [nodes]
theorem nodes_getD (f : Int → Int) {n : Int} {i : Nat} (h : i < n.toNat) : (nodes f n).getD i 0 = f i := by
  simp [nodes, List.getD_eq_getElem?_getD, h]
theorem outs_turn (l : List Arc) (i : Int) : outs (l.map turnA) i = inns l i := by
  unfold outs inns; rw [List.countP_map]; rfl
theorem inns_turn (l : List Arc) (i : Int) : inns (l.map turnA) i = outs l i := by
  unfold outs inns; rw [List.countP_map]; rfl
theorem take_succ_getD {l : List Arc} {j : Nat} (h : j < l.length) : l.take (j + 1) = l.take j ++ [l.getD j El.d] := by
  rw [List.take_succ_eq_append_getElem h]
  simp [List.getD_eq_getElem?_getD, h]
theorem outs_snoc (l : List Arc) (a : Arc) (i : Int) : outs (l ++ [a]) i = outs l i + if a.f = i then 1 else 0 := by
  unfold outs; rw [List.countP_append]
  by_cases h : a.f = i <;> simp [h]
theorem inns_snoc (l : List Arc) (a : Arc) (i : Int) : inns (l ++ [a]) i = inns l i + if a.t = i then 1 else 0 := by
  unfold inns; rw [List.countP_append]
  by_cases h : a.t = i <;> simp [h]
theorem outs_le (l : List Arc) (i : Int) : 0 ≤ outs l i ∧ outs l i ≤ l.length := by
  unfold outs; exact ⟨by omega, by have := List.countP_le_length (p := fun a : Arc => a.f == i) (l := l); omega⟩
theorem inns_le (l : List Arc) (i : Int) : 0 ≤ inns l i ∧ inns l i ≤ l.length := by
  unfold inns; exact ⟨by omega, by have := List.countP_le_length (p := fun a : Arc => a.t == i) (l := l); omega⟩
theorem set_nodes {f : Int → Int} {n i : Int} (h0 : 0 ≤ i) (h1 : i < n) (v : Int) : (nodes f n).set i.toNat v = nodes (fun j => if i = j then v else f j) n := by
  refine eq_of_getD (d := 0) (by simp [nodes]) fun j hj => ?_
  have hj' : j < n.toNat := by simpa [nodes] using hj
  rw [getD_set', nodes_getD _ hj', nodes_getD _ hj', nodes_len]
  by_cases h : j = i.toNat
  · rw [if_pos ⟨h, by omega⟩, if_pos (by omega)]
  · rw [if_neg (fun x => h x.1), if_neg (by omega)]
theorem nodes_congr {f f' : Int → Int} {n : Int} (h : ∀ i, 0 ≤ i → i < n → f i = f' i) : nodes f n = nodes f' n := by
  unfold nodes
  refine List.map_congr_left fun i hi => ?_
  have := List.mem_range.1 hi
  exact h i (by omega) (by omega)
theorem outs_cons (a : Arc) (l : List Arc) (i : Int) : outs (a :: l) i = (if a.f = i then 1 else 0) + outs l i := by
  unfold outs; rw [List.countP_cons]; by_cases h : a.f = i <;> simp [h] <;> omega
theorem inns_cons (a : Arc) (l : List Arc) (i : Int) : inns (a :: l) i = (if a.t = i then 1 else 0) + inns l i := by
  unfold inns; rw [List.countP_cons]; by_cases h : a.t = i <;> simp [h] <;> omega
theorem tot_one {a n : Int} (h0 : 0 ≤ a) (h1 : a < n) : tot (fun i => if a = (i : Int) then 1 else 0) n.toNat = 1 := by
  rw [tot_single (k := a.toNat) (by omega) fun i _ hne => if_neg (by omega), if_pos (by omega)]
theorem tot_outs {n least : Int} : ∀ {l : List Arc}, (∀ a, a ∈ l → Good n least a) → tot (fun i => outs l i) n.toNat = l.length
  | [], _ => tot_zero fun _ _ => rfl
  | a :: l, h => by
    have ha := h a (by simp)
    rw [tot_congr fun i _ => outs_cons a l i, tot_add, tot_one ha.f0 ha.f1, tot_outs fun b hb => h b (by simp [hb])]
    simp; omega
theorem tot_inns {n least : Int} : ∀ {l : List Arc}, (∀ a, a ∈ l → Good n least a) → tot (fun i => inns l i) n.toNat = l.length
  | [], _ => tot_zero fun _ _ => rfl
  | a :: l, h => by
    have ha := h a (by simp)
    rw [tot_congr fun i _ => inns_cons a l i, tot_add, tot_one ha.t0 ha.t1, tot_inns fun b hb => h b (by simp [hb])]
    simp; omega
theorem tot_small {f : Nat → Int} {b : Int} {m : Nat} (h : ∀ i, 0 ≤ f i ∧ f i ≤ b) (hb : 0 ≤ b) (hm : m ≤ 12) (hb2 : b ≤ 1000000) : InI (tot f m) := by
  have h1 := tot_nonneg (f := f) (n := m) fun i _ => (h i).1
  have h2 := tot_le (f := f) (g := fun _ => b) (n := m) fun i _ => (h i).2
  rw [tot_const] at h2
  have h3 : (m : Int) * b ≤ 12 * b := Int.mul_le_mul_of_nonneg_right (by omega) hb
  exact inI_small (by omega) (by omega)
end Go.Proofs.Ytgkcmjmofcekmaa
