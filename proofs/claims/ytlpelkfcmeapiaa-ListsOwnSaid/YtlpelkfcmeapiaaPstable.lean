/- Package stable: Check, Pair, Both. -/
import Derived.Test.YtlpelkfcmeapiaaPlattice
import Derived.Test.YtlpelkfcmeapiaaPgraph
import Derived.Test.YtlpelkfcmeapiaaGstable
namespace Go.Proofs.Ytlpelkfcmeapiaa
open Go Go.Proofs.Ytlpelkfcmeapiaa.Sx
set_option linter.unusedVariables false
set_option linter.unusedSimpArgs false
/-! ### Index -/
theorem indexS_eq (l : List Int) (v : Int) : ∃ r, slices_Index_int_F l v = some r ∧ ((r = -1 ∧ v ∉ l) ∨ (0 ≤ r ∧ r < l.length ∧ l.getD r.toNat 0 = v ∧ ∀ i : Nat, (i : Int) < r → l.getD i 0 ≠ v)) := by
  unfold slices_Index_int_F
  obtain ⟨q, h1, h2⟩ := forC_or (f := slices_Index_int_B1 l v) (fun k _ => ∀ i, i < k → l.getD i 0 ≠ v) (fun q => (∀ r, q = .ret r → 0 ≤ r ∧ r < l.length ∧ l.getD r.toNat 0 = v ∧ ∀ i : Nat, (i : Int) < r → l.getD i 0 ≠ v) ∧ (q = .go () → v ∉ l)) (n := l.length) (k := 0) (s := ()) (fun i h => absurd h (by omega)) (fun j s _ hj hI => by
    unfold slices_Index_int_B1
    by_cases he : v = l.getD j 0
    · right; right
      refine ⟨(j : Int), by rw [if_pos he], fun r e => ?_, fun e => by cases e⟩
      injection e with e; subst e
      exact ⟨by omega, by omega, by rw [Int.toNat_natCast]; exact he.symm, fun i hi => hI i (by omega)⟩
    · left
      refine ⟨(), by rw [if_neg he], fun i hi => ?_⟩
      by_cases h : i = j
      · subst h; exact fun e => he e.symm
      · exact hI i (by omega)) (fun s h => ⟨fun r e => (by cases e), fun _ hm => by
    obtain ⟨k, hk, e⟩ := getD_of_mem (d := 0) hm
    exact h k (by omega) e⟩)
  rw [h1, bind_some']
  cases q with
  | go s => exact ⟨-1, rfl, .inl ⟨rfl, h2.2 rfl⟩⟩
  | ret r => exact ⟨r, rfl, .inr (h2.1 r rfl)⟩
def ix (l : List Int) (v : Int) : Int := (slices_Index_int_F l v).getD 0
theorem ix_eq (l : List Int) (v : Int) : slices_Index_int_F l v = some (ix l v) := by
  obtain ⟨r, e, _⟩ := indexS_eq l v
  unfold ix; rw [e]; rfl
theorem ix_mem {l : List Int} {v : Int} (h : v ∈ l) : 0 ≤ ix l v ∧ ix l v < l.length ∧ l.getD (ix l v).toNat 0 = v := by
  obtain ⟨r, e, h1⟩ := indexS_eq l v
  have e2 : ix l v = r := by unfold ix; rw [e]; rfl
  rw [e2]
  rcases h1 with ⟨_, h1⟩ | ⟨h1, h2, h3, _⟩
  · exact absurd h h1
  · exact ⟨h1, h2, h3⟩
/-- each number below n stands in the list once -/
structure PermL (n : Nat) (l : List Int) : Prop where
  len : l.length = n
  all : ∀ k : Nat, k < n → (k : Int) ∈ l
theorem PermL.in_ {n : Nat} {l : List Int} (h : PermL n l) {v : Int} (h0 : 0 ≤ v) (h1 : v < n) : v ∈ l := by
  have := h.all v.toNat (by omega)
  rwa [Int.toNat_of_nonneg h0] at this
theorem PermL.at_ {n : Nat} {l : List Int} (h : PermL n l) {i : Nat} (hi : i < n) : ∃ k : Nat, k < n ∧ ix l (k : Int) = i := by
  have hl := h.len
  have hx : ∀ k : Nat, k < n → 0 ≤ ix l (k : Int) ∧ ix l (k : Int) < n ∧ l.getD (ix l (k : Int)).toNat 0 = k := fun k hk => by
    have := ix_mem (h.all k hk)
    rw [hl] at this; exact this
  obtain ⟨k, hk, e⟩ := inj_surjI (n := n) (f := fun k => ix l (k : Int)) (fun k hk => ⟨(hx k hk).1, (hx k hk).2.1⟩) (fun k k' hk hk' e => by
    have a := (hx k hk).2.2
    have b := (hx k' hk').2.2
    have e' : ix l (k : Int) = ix l (k' : Int) := e
    rw [e'] at a
    rw [a] at b
    omega) (i : Int) (by omega) (by omega)
  exact ⟨k, hk, e⟩
theorem PermL.rg {n : Nat} {l : List Int} (h : PermL n l) {i : Nat} (hi : i < n) : 0 ≤ l.getD i 0 ∧ l.getD i 0 < (n : Int) ∧ ix l (l.getD i 0) = i := by
  obtain ⟨k, hk, e⟩ := h.at_ hi
  have := (ix_mem (h.all k hk)).2.2
  rw [e, Int.toNat_natCast] at this
  rw [this]
  exact ⟨by omega, by omega, e⟩
theorem PermL.inj {n : Nat} {l : List Int} (h : PermL n l) {i j : Nat} (hi : i < n) (hj : j < n) (e : l.getD i 0 = l.getD j 0) : i = j := by
  have a := (h.rg hi).2.2
  have b := (h.rg hj).2.2
  rw [e] at a
  omega
theorem PermL.of {n : Nat} {l : List Int} (hl : l.length = n) (hr : ∀ i, i < n → 0 ≤ l.getD i 0 ∧ l.getD i 0 < (n : Int)) (hi : ∀ i j, i < n → j < n → l.getD i 0 = l.getD j 0 → i = j) : PermL n l := ⟨hl, fun k hk => by
  obtain ⟨i, h1, h2⟩ := inj_surjI (f := fun i => l.getD i 0) hr hi (k : Int) (by omega) (by omega)
  have h2' : l.getD i 0 = k := h2
  rw [← h2']
  exact mem_getD (by omega)⟩
/-- a loop that asks for each number -/
theorem contains_loop {n : Nat} {l : List Int} {ρ : Type} {f : Nat → Unit → Option (Ct Unit ρ)} {r : ρ} (hf : ∀ k, f k () = if (!(decide ((k : Int) ∈ l))) = true then some (.ret r) else some (.go ())) : (forC f n 0 () = some (.go ()) ∧ ∀ k : Nat, k < n → (k : Int) ∈ l) ∨ (forC f n 0 () = some (.ret r) ∧ ¬ ∀ k : Nat, k < n → (k : Int) ∈ l) := by
  obtain ⟨q, e, h1, h2⟩ := forC_or (f := f) (fun j _ => ∀ k : Nat, k < j → (k : Int) ∈ l) (fun q => (q = .go () → ∀ k : Nat, k < n → (k : Int) ∈ l) ∧ (∀ x, q = .ret x → x = r ∧ ¬ ∀ k : Nat, k < n → (k : Int) ∈ l)) (n := n) (k := 0) (s := ()) (fun k hk => absurd hk (by omega)) (fun j _ _ hj i1 => by
    rw [hf]
    by_cases p1 : (j : Int) ∈ l
    · rw [if_neg (by rw [decide_eq_true p1]; decide)]
      refine .inl ⟨(), rfl, fun k hk => ?_⟩
      by_cases e : k = j
      · subst e; exact p1
      · exact i1 k (by omega)
    · rw [if_pos (by rw [decide_eq_false p1]; rfl)]
      exact .inr (.inr ⟨r, rfl, fun e => (by cases e), fun x e => by injection e with e; exact ⟨e.symm, fun h => p1 (h j (by omega))⟩⟩)) (fun _ i1 => ⟨fun _ k hk => i1 k (by omega), fun x e => (by cases e)⟩)
  cases q with
  | go s => exact .inl ⟨e, h1 rfl⟩
  | ret x =>
    obtain ⟨rfl, h3⟩ := h2 x rfl
    exact .inr ⟨e, h3⟩
theorem app_left {α : Type} {l m : List α} {i : Nat} {d : α} (h : i < l.length) : (l ++ m).getD i d = l.getD i d := by
  rw [List.getD_eq_getElem?_getD, List.getD_eq_getElem?_getD, List.getElem?_append_left h]
theorem app_right {α : Type} {l m : List α} {i : Nat} {d : α} : (l ++ m).getD (l.length + i) d = m.getD i d := by
  rw [List.getD_eq_getElem?_getD, List.getD_eq_getElem?_getD, List.getElem?_append_right (by omega), Nat.add_sub_cancel_left]
/-! ### Check -/
structure OkS (a b : List (List Int)) : Prop where
  n : a.length ≤ 6
  lb : b.length = a.length
  pa : ∀ i, i < a.length → PermL a.length (a.getD i [])
  pb : ∀ i, i < a.length → PermL a.length (b.getD i [])
theorem growS_eq {n : Nat} (hn : n ≤ 1000) : slices_Grow_intL_F ((n : Nat) : Int) = some [] := by
  unfold slices_Grow_intL_F
  rw [if_neg (by omega), bind_some', ck_some (inI_small (by omega) (by omega)), ck_some (inI_small (by omega) (by omega))]
  split
  · rw [ck_some ⟨by omega, by omega⟩]; simp [subl]
  · rfl
theorem concatS_eq {l m : List (List Int)} (hl : l.length ≤ 100) (hm : m.length ≤ 100) : slices_Concat_intL_F [l, m] = some (l ++ m) := by
  unfold slices_Concat_intL_F
  have e1 : forN (slices_Concat_intL_B1 [l, m]) 2 0 0 = some (l.length + m.length) := by
    simp only [forN, slices_Concat_intL_B1, List.getD_cons_zero, List.getD_cons_succ]
    rw [ck_some (inI_small (by omega) (by omega)), if_neg (by omega)]
    simp only [bind_some', Nat.zero_add]
    rw [ck_some (inI_small (by omega) (by omega)), if_neg (by omega)]
    rfl
  have e2 : forN (slices_Concat_intL_B2 [l, m]) 2 0 [] = some (l ++ m) := by
    simp only [forN, slices_Concat_intL_B2, List.getD_cons_zero, List.getD_cons_succ]
    rw [ck_some (by simp; omega)]
    simp only [bind_some', Nat.zero_add, List.nil_append]
    rw [ck_some (by omega)]
    rfl
  show (forN (slices_Concat_intL_B1 [l, m]) 2 0 0).bind _ = _
  rw [e1, bind_some', growS_eq (by omega), bind_some']
  show (forN (slices_Concat_intL_B2 [l, m]) 2 0 []).bind _ = _
  rw [e2]; rfl
theorem checkS (a b : List (List Int)) : ∃ e, stable_Check_F a b = some e ∧ (e = 0 ∧ OkS a b ∨ e = 2 ∨ e = 3) := by
  unfold stable_Check_F
  by_cases h1 : 6 < ((a.length : Nat) : Int)
  · rw [if_pos h1]; exact ⟨2, rfl, .inr (.inl rfl)⟩
  by_cases h2 : ((b.length : Nat) : Int) ≠ ((a.length : Nat) : Int)
  · rw [if_neg h1, if_pos h2]; exact ⟨3, rfl, .inr (.inr rfl)⟩
  rw [if_neg h1, if_neg h2, concatS_eq (by omega) (by omega), bind_some']
  have hab : (a ++ b).length = a.length + b.length := List.length_append
  obtain ⟨q, e, q1, q2⟩ := forC_or (f := stable_Check_B1 a (a ++ b)) (fun j _ => ∀ k, k < j → PermL a.length ((a ++ b).getD k [])) (fun q => (q = .go () → ∀ k, k < (a ++ b).length → PermL a.length ((a ++ b).getD k [])) ∧ (∀ x, q = .ret x → x = 3)) (n := (a ++ b).length) (k := 0) (s := ()) (fun k hk => absurd hk (by omega)) (fun j _ _ hj i1 => by
    unfold stable_Check_B1
    by_cases p1 : ((((a ++ b).getD j []).length : Nat) : Int) ≠ ((a.length : Nat) : Int)
    · rw [if_pos p1]
      exact .inr (.inr ⟨3, rfl, fun e => (by cases e), fun x e => by injection e with e; exact e.symm⟩)
    rw [if_neg p1]
    rcases contains_loop (n := ((a ++ b).getD j []).length) (f := stable_Check_B2 (a ++ b) j) (l := (a ++ b).getD j []) (r := .ret 3) (fun k => by unfold stable_Check_B2; rw [contains_eq, bind_some']) with ⟨e, h⟩ | ⟨e, _⟩
    · rw [e, bind_some']
      refine .inl ⟨(), rfl, fun k hk => ?_⟩
      by_cases ek : k = j
      · subst ek; exact ⟨by omega, fun k hk => h k (by omega)⟩
      · exact i1 k (by omega)
    · rw [e, bind_some']
      exact .inr (.inr ⟨3, rfl, fun e => (by cases e), fun x e => by injection e with e; exact e.symm⟩)) (fun _ i1 => ⟨fun _ k hk => i1 k (by omega), fun x e => (by cases e)⟩)
  rw [e, bind_some']
  cases q with
  | ret x => exact ⟨x, rfl, .inr (.inr (q2 x rfl))⟩
  | go s =>
    have h := q1 rfl
    refine ⟨0, rfl, .inl ⟨rfl, by omega, by omega, fun i hi => ?_, fun i hi => ?_⟩⟩
    · have := h i (by omega)
      rwa [app_left hi] at this
    · have := h (a.length + i) (by omega)
      rwa [app_right] at this
def rk (a : List (List Int)) (i : Nat) (v : Int) : Int := ix (a.getD i []) v
def rkB (b : List (List Int)) (v : Int) (i : Nat) : Int := ix (b.getD v.toNat []) (i : Int)
def StabL (a b : List (List Int)) (p : List Int) : Prop := StabM a.length (rk a) (rkB b) fun i => p.getD i 0
theorem OkS.ranks {a b : List (List Int)} (h : OkS a b) : Ranks a.length (rk a) (rkB b) := ⟨fun i v w hi v0 v1 w0 w1 e => by
    have x := (ix_mem ((h.pa i hi).in_ v0 v1)).2.2
    have y := (ix_mem ((h.pa i hi).in_ w0 w1)).2.2
    have e' : ix (a.getD i []) v = ix (a.getD i []) w := e
    rw [e'] at x
    exact x.symm.trans y, fun v i j v0 v1 hi hj e => by
    have x := (ix_mem ((h.pb v.toNat (by omega)).all i hi)).2.2
    have y := (ix_mem ((h.pb v.toNat (by omega)).all j hj)).2.2
    have e' : ix (b.getD v.toNat []) (i : Int) = ix (b.getD v.toNat []) (j : Int) := e
    rw [e'] at x
    rw [x] at y
    omega⟩
/-- the pairs are stable, or the program says that they are not -/
structure GoodS (a b : List (List Int)) (p : List Int) : Prop where
  ok : OkS a b
  chk : stable_Check_F a b = some 0
  perm : PermL a.length p
  st : StabL a b p
structure BothR (a : List (List Int)) (p q x y : List Int) : Prop where
  lx : x.length = a.length
  ly : y.length = a.length
  x : ∀ i, i < a.length → x.getD i 0 = (a.getD i []).getD (min (rk a i (p.getD i 0)) (rk a i (q.getD i 0))).toNat 0
  y : ∀ i, i < a.length → y.getD i 0 = (a.getD i []).getD (max (rk a i (p.getD i 0)) (rk a i (q.getD i 0))).toNat 0
theorem BothR.two {a b : List (List Int)} {p q x y : List Int} (h : BothR a p q x y) (g : GoodS a b p) (g2 : GoodS a b q) {i : Nat} (hi : i < a.length) : Two2 (rk a) (fun i => p.getD i 0) (fun i => q.getD i 0) (fun i => x.getD i 0) (fun i => y.getD i 0) i := by
  have hA := g.ok.pa i hi
  have hp := g.perm.rg hi
  have hq := g2.perm.rg hi
  have mp := ix_mem (hA.in_ hp.1 hp.2.1)
  have mq := ix_mem (hA.in_ hq.1 hq.2.1)
  have hx := h.x i hi
  have hy := h.y i hi
  have rp : rk a i (p.getD i 0) = ix (a.getD i []) (p.getD i 0) := rfl
  have rq : rk a i (q.getD i 0) = ix (a.getD i []) (q.getD i 0) := rfl
  rcases Int.le_total (rk a i (p.getD i 0)) (rk a i (q.getD i 0)) with c | c
  · rw [Int.min_eq_left c, rp, mp.2.2] at hx
    rw [Int.max_eq_right c, rq, mq.2.2] at hy
    exact .inl ⟨hx, hy, c⟩
  · rw [Int.min_eq_right c, rq, mq.2.2] at hx
    rw [Int.max_eq_left c, rp, mp.2.2] at hy
    exact .inr ⟨hx, hy, c⟩
theorem GoodS.of_stab {a b : List (List Int)} {p x : List Int} (g : GoodS a b p) (hl : x.length = a.length) (h : StabM a.length (rk a) (rkB b) fun i => x.getD i 0) : GoodS a b x := ⟨g.ok, g.chk, PermL.of hl h.rg h.inj, h⟩
end Go.Proofs.Ytlpelkfcmeapiaa
