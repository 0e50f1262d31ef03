/- Package short: what the functions answer. -/
import Derived.Test.YtlpelkfcmeapiaaPgraph
import Derived.Test.YtlpelkfcmeapiaaPlB
import Derived.Test.YtlpelkfcmeapiaaGshort
namespace Go.Proofs.Ytlpelkfcmeapiaa
open Go Go.Proofs.Ytlpelkfcmeapiaa.Sx
set_option linter.unusedVariables false
set_option linter.unusedSimpArgs false

theorem zeros_getD (n i : Nat) : (List.replicate n (0 : Int)).getD i 0 = 0 := by rw [getD_replicate']; split <;> rfl
/-! ### the rounds, in plain words -/
abbrev RS := List Int × List Bool × Bool
def stp (s : RS) (a : Arc) : RS :=
  if s.2.1.getD a.f.toNat false = true then
    if s.2.1.getD a.t.toNat false = true ∧ s.1.getD a.t.toNat 0 ≤ s.1.getD a.f.toNat 0 + a.c then s
    else (s.1.set a.t.toNat (s.1.getD a.f.toNat 0 + a.c), s.2.1.set a.t.toNat true, false)
  else s
def relP (L : List Arc) : Nat → List Int × List Bool → Bool × List Int × List Bool
  | 0, s => (false, s.1, s.2)
  | n + 1, s => if (L.foldl stp (s.1, s.2, true)).2.2 = true then (true, (L.foldl stp (s.1, s.2, true)).1, (L.foldl stp (s.1, s.2, true)).2.1) else relP L n ((L.foldl stp (s.1, s.2, true)).1, (L.foldl stp (s.1, s.2, true)).2.1)
structure RI (n M : Int) (s : RS) : Prop where
  l0 : s.1.length = n.toNat
  l1 : s.2.1.length = n.toNat
  lo : ∀ i, -M ≤ s.1.getD i 0
  hi : ∀ i, s.1.getD i 0 ≤ M
theorem stp_ri {n M : Int} {s : RS} {a : Arc} (ha : Good n (-10000) a) (h : RI n M s) : RI n (M + 10000) (stp s a) := by
  have h1 := ha.c0; have h2 := ha.c1
  have g0 : RI n (M + 10000) s := ⟨h.l0, h.l1, fun i => by have := h.lo i; omega, fun i => by have := h.hi i; omega⟩
  unfold stp
  split
  · split
    · exact g0
    · refine ⟨by simp [h.l0], by simp [h.l1], fun i => ?_, fun i => ?_⟩
      · dsimp only
        rw [getD_set']
        have := h.lo a.f.toNat
        have := h.lo i
        split <;> omega
      · dsimp only
        rw [getD_set']
        have := h.hi a.f.toNat
        have := h.hi i
        split <;> omega
  · exact g0
theorem relax_step {g : Graph} (hg : Ok g) {k : Nat} (hk : k < g.as.length) {M : Int} (hM : M ≤ 100000000) {s : RS} (h : RI g.n M s) : short_relax_B2 g k s = some (stp s (g.as.getD k El.d)) := by
  obtain ⟨F, K, q⟩ := s
  obtain ⟨l0, l1, lo, hi⟩ := h
  have hG := hg.arc _ (mem_getD (d := El.d) hk)
  unfold short_relax_B2 stp
  generalize g.as.getD k El.d = a at *
  have := hG.f0; have := hG.f1; have := hG.t0; have := hG.t1; have := hG.c0; have := hG.c1; have := hg.n0
  dsimp only at l0 l1 lo hi ⊢
  have b1 := lo a.f.toNat; have b2 := hi a.f.toNat
  rw [ck_some ⟨by omega, by omega⟩]
  by_cases hf : K.getD a.f.toNat false = true
  · rw [if_pos hf, if_pos hf, ck_some ⟨by omega, by omega⟩]
    by_cases ht : K.getD a.t.toNat false = true
    · rw [if_neg (by rw [ht]; decide), ck_some ⟨by omega, by omega⟩, ck_some (inI_small (by omega) (by omega)), ck_some ⟨by omega, by omega⟩]
      by_cases hlt : F.getD a.f.toNat 0 + a.c < F.getD a.t.toNat 0
      · rw [if_pos hlt, if_neg (fun x => by omega)]
      · rw [if_neg hlt, if_pos ⟨ht, by omega⟩]
    · rw [if_pos (by rw [Bool.not_eq_true] at ht; rw [ht]; rfl), ck_some ⟨by omega, by omega⟩, ck_some (inI_small (by omega) (by omega)), ck_some ⟨by omega, by omega⟩, if_neg (fun x => ht x.1)]
  · rw [if_neg hf, if_neg hf]
theorem relax_round {g : Graph} (hg : Ok g) {M : Int} (hM : M ≤ 90000000) {s : RS} (h : RI g.n M s) :
    forN (short_relax_B2 g) g.as.length 0 s = some (g.as.foldl stp s) ∧ RI g.n (M + 600000) (g.as.foldl stp s) := by
  have hl := hg.len
  have := forN_list (f := short_relax_B2 g) g.as El.d stp (fun j s => RI g.n (M + 10000 * (j : Int)) s) (s := s) (by simpa using h) fun j s hj hI =>
    ⟨relax_step hg hj (by omega) hI, by
      have := stp_ri (hg.arc _ (mem_getD (d := El.d) hj)) hI
      have e : M + 10000 * ((j + 1 : Nat) : Int) = M + 10000 * (j : Int) + 10000 := by omega
      rw [e]; exact this⟩
  refine ⟨this.1, ?_⟩
  have q := this.2
  exact ⟨q.l0, q.l1, fun i => by have := q.lo i; omega, fun i => by have := q.hi i; omega⟩
theorem relax_loop {g : Graph} (hg : Ok g) : ∀ (m k : Nat) (F : List Int) (K : List Bool), m + k ≤ 13 → RI g.n (600000 * (k : Int)) (F, K, true) →
    ∃ q, forC (short_relax_B1 g) m k (F, K) = some q ∧ RI g.n 7800000 ((relP g.as m (F, K)).2.1, (relP g.as m (F, K)).2.2, true) ∧
      (q = .go (relP g.as m (F, K)).2 ∧ (relP g.as m (F, K)).1 = false ∨ q = .ret (relP g.as m (F, K)) ∧ (relP g.as m (F, K)).1 = true)
  | 0, k, F, K, hk, h => ⟨_, rfl, ⟨h.l0, h.l1, fun i => by have := h.lo i; simp only [relP] at *; omega, fun i => by have := h.hi i; simp only [relP] at *; omega⟩, .inl ⟨rfl, rfl⟩⟩
  | m + 1, k, F, K, hk, h => by
    obtain ⟨h1, h2⟩ := relax_round hg (by omega) h
    have e : short_relax_B1 g k (F, K) = some (if (g.as.foldl stp (F, K, true)).2.2 = true then .ret (true, (g.as.foldl stp (F, K, true)).1, (g.as.foldl stp (F, K, true)).2.1) else .go ((g.as.foldl stp (F, K, true)).1, (g.as.foldl stp (F, K, true)).2.1)) := by
      unfold short_relax_B1
      dsimp only
      rw [h1, bind_some']
      split <;> rfl
    rw [forC, e, bind_some', relP]
    dsimp only
    by_cases hq : (g.as.foldl stp (F, K, true)).2.2 = true
    · rw [if_pos hq, if_pos hq]
      exact ⟨_, rfl, ⟨h2.l0, h2.l1, fun i => by have := h2.lo i; dsimp only; omega, fun i => by have := h2.hi i; dsimp only; omega⟩, .inr ⟨rfl, rfl⟩⟩
    · rw [if_neg hq, if_neg hq]
      dsimp only
      exact relax_loop hg m (k + 1) _ _ (by omega) ⟨h2.l0, h2.l1, fun i => by have := h2.lo i; dsimp only; omega, fun i => by have := h2.hi i; dsimp only; omega⟩
theorem relax_eq {g : Graph} (hg : Ok g) {F : List Int} {K : List Bool} (h : RI g.n 0 (F, K, true)) :
    short_relax_F g F K = some (relP g.as (g.n + 1).toNat (F, K)) ∧ RI g.n 7800000 ((relP g.as (g.n + 1).toNat (F, K)).2.1, (relP g.as (g.n + 1).toNat (F, K)).2.2, true) := by
  have := hg.n0; have := hg.n1
  obtain ⟨q, h1, h2, h3⟩ := relax_loop hg (g.n + 1).toNat 0 F K (by omega) (by simpa using h)
  refine ⟨?_, h2⟩
  unfold short_relax_F
  rw [ck_some (inI_small (by omega) (by omega)), h1, bind_some']
  rcases h3 with ⟨rfl, h4⟩ | ⟨rfl, h4⟩
  · dsimp only
    rw [← h4]
  · rfl

/-! ### rest -/
def Stab (F : List Int) (K : List Bool) (a : Arc) : Prop := K.getD a.f.toNat false = true → K.getD a.t.toNat false = true ∧ F.getD a.t.toNat 0 ≤ F.getD a.f.toNat 0 + a.c
theorem stp_quiet {s : RS} {a : Arc} (h : (stp s a).2.2 = true) : stp s a = s ∧ Stab s.1 s.2.1 a := by
  unfold stp at *
  split at h
  · rename_i h1
    split at h
    · rename_i h2
      rw [if_pos h1, if_pos h2]
      exact ⟨rfl, fun _ => h2⟩
    · cases h
  · rename_i h1
    rw [if_neg h1]
    exact ⟨rfl, fun h2 => absurd h2 h1⟩
theorem fold_quiet : ∀ {L : List Arc} {s : RS}, (L.foldl stp s).2.2 = true → L.foldl stp s = s ∧ ∀ a, a ∈ L → Stab s.1 s.2.1 a
  | [], s, h => ⟨rfl, fun a ha => by cases ha⟩
  | a :: L, s, h => by
    rw [List.foldl_cons] at h ⊢
    obtain ⟨h1, h2⟩ := fold_quiet h
    have h3 : (stp s a).2.2 = true := by rw [← h1]; exact h
    obtain ⟨h4, h5⟩ := stp_quiet h3
    rw [h4] at h1 h2
    rw [h4]
    refine ⟨h1, fun b hb => ?_⟩
    rcases List.mem_cons.1 hb with rfl | hb
    · exact h5
    · exact h2 b hb
theorem relP_stab {L : List Arc} : ∀ {m : Nat} {s : List Int × List Bool}, (relP L m s).1 = true → ∀ a, a ∈ L → Stab (relP L m s).2.1 (relP L m s).2.2 a
  | 0, s, h => by cases h
  | m + 1, s, h => by
    rw [relP] at h ⊢
    by_cases hq : (L.foldl stp (s.1, s.2, true)).2.2 = true
    · rw [if_pos hq]
      obtain ⟨h1, h2⟩ := fold_quiet hq
      rw [h1]
      exact h2
    · rw [if_neg hq] at h ⊢
      exact relP_stab h
theorem relP_inv {L : List Arc} (V : List Int → List Bool → Prop) (hV : ∀ s a, a ∈ L → V s.1 s.2.1 → V (stp s a).1 (stp s a).2.1) : ∀ {m : Nat} {s : List Int × List Bool}, V s.1 s.2 → V (relP L m s).2.1 (relP L m s).2.2 := by
  have hf : ∀ (M : List Arc), (∀ a, a ∈ M → a ∈ L) → ∀ s : RS, V s.1 s.2.1 → V (M.foldl stp s).1 (M.foldl stp s).2.1 := by
    intro M
    induction M with
    | nil => intro _ s h; exact h
    | cons a M ih => intro hM s h; exact ih (fun b hb => hM b (by simp [hb])) _ (hV s a (hM a (by simp)) h)
  intro m
  induction m with
  | zero => intro s h; exact h
  | succ m ih =>
    intro s h
    have := hf L (fun _ h => h) (s.1, s.2, true) h
    rw [relP]
    split
    · exact this
    · exact ih this

/-! ### lengthened by heights -/
def long (h : List Int) (a : Arc) : Arc := ⟨a.f, a.t, a.c + (h.getD a.f.toNat 0 - h.getD a.t.toNat 0)⟩
structure Alike (n : Nat) (h : List Int) (z : Int) (s u : RS) : Prop where
  same : u.2 = s.2
  l0 : s.1.length = n
  l1 : s.2.1.length = n
  l2 : u.1.length = n
  far : ∀ i, i < n → s.2.1.getD i false = true → u.1.getD i 0 = s.1.getD i 0 + z - h.getD i 0
theorem stp_alike {n : Nat} {h : List Int} {z : Int} {s u : RS} {a : Arc} (hf : a.f.toNat < n) (ht : a.t.toNat < n) (H : Alike n h z s u) : Alike n h z (stp s a) (stp u (long h a)) := by
  obtain ⟨F, K, q⟩ := s
  obtain ⟨F2, K2, q2⟩ := u
  obtain ⟨same, l0, l1, l2, far⟩ := H
  dsimp only at same l0 l1 l2 far
  obtain ⟨rfl, rfl⟩ := Prod.mk.inj same
  unfold stp long
  dsimp only
  by_cases h1 : K2.getD a.f.toNat false = true
  · rw [if_pos h1, if_pos h1]
    have e1 := far _ hf h1
    by_cases h2 : K2.getD a.t.toNat false = true
    · have e2 := far _ ht h2
      by_cases h3 : F.getD a.t.toNat 0 ≤ F.getD a.f.toNat 0 + a.c
      · rw [if_pos ⟨h2, h3⟩, if_pos ⟨h2, by omega⟩]
        exact ⟨rfl, l0, l1, l2, far⟩
      · rw [if_neg (fun x => h3 x.2), if_neg (fun x => by have := x.2; omega)]
        refine ⟨rfl, by simp [l0], by simp [l1], by simp [l2], fun i hi hk => ?_⟩
        dsimp only at hk ⊢
        rw [getD_set'] at hk ⊢
        rw [getD_set']
        rw [l0, l2]
        by_cases hi2 : i = a.t.toNat
        · subst hi2
          rw [if_pos ⟨rfl, ht⟩, if_pos ⟨rfl, ht⟩]; omega
        · rw [if_neg (fun x => hi2 x.1)] at hk ⊢
          rw [if_neg (fun x => hi2 x.1)]
          exact far i hi hk
    · rw [if_neg (fun x => h2 x.1), if_neg (fun x => h2 x.1)]
      refine ⟨rfl, by simp [l0], by simp [l1], by simp [l2], fun i hi hk => ?_⟩
      dsimp only at hk ⊢
      rw [getD_set'] at hk ⊢
      rw [getD_set']
      rw [l0, l2]
      by_cases hi2 : i = a.t.toNat
      · subst hi2
        rw [if_pos ⟨rfl, ht⟩, if_pos ⟨rfl, ht⟩]; omega
      · rw [if_neg (fun x => hi2 x.1)] at hk ⊢
        rw [if_neg (fun x => hi2 x.1)]
        exact far i hi hk
  · rw [if_neg h1, if_neg h1]
    exact ⟨rfl, l0, l1, l2, far⟩
theorem fold_alike {n : Nat} {h : List Int} {z : Int} : ∀ {L : List Arc} {s u : RS}, (∀ a, a ∈ L → a.f.toNat < n ∧ a.t.toNat < n) → Alike n h z s u → Alike n h z (L.foldl stp s) ((L.map (long h)).foldl stp u)
  | [], _, _, _, H => H
  | a :: L, s, u, hL, H => fold_alike (L := L) (fun b hb => hL b (by simp [hb])) (stp_alike (hL a (by simp)).1 (hL a (by simp)).2 H)
theorem relP_alike {n : Nat} {h : List Int} {z : Int} {L : List Arc} (hL : ∀ a, a ∈ L → a.f.toNat < n ∧ a.t.toNat < n) : ∀ {m : Nat} {F F2 : List Int} {K : List Bool}, Alike n h z (F, K, true) (F2, K, true) →
    (relP (L.map (long h)) m (F2, K)).1 = (relP L m (F, K)).1 ∧ Alike n h z ((relP L m (F, K)).2.1, (relP L m (F, K)).2.2, true) ((relP (L.map (long h)) m (F2, K)).2.1, (relP (L.map (long h)) m (F2, K)).2.2, true)
  | 0, _, _, _, H => ⟨rfl, H⟩
  | m + 1, F, F2, K, H => by
    have := fold_alike hL H
    rw [relP, relP]
    dsimp only
    have es := this.same
    have H2 : Alike n h z ((L.foldl stp (F, K, true)).1, (L.foldl stp (F, K, true)).2.1, true) (((L.map (long h)).foldl stp (F2, K, true)).1, ((L.map (long h)).foldl stp (F2, K, true)).2.1, true) := ⟨by rw [es], this.l0, this.l1, this.l2, this.far⟩
    rw [es] at H2 ⊢
    by_cases hq : (L.foldl stp (F, K, true)).2.2 = true
    · rw [if_pos hq, if_pos hq]
      exact ⟨rfl, H2⟩
    · rw [if_neg hq, if_neg hq]
      exact relP_alike hL H2

/-! ### Heights, From -/
theorem trues_loop (n : Nat) : forN short_Heights_B1 n 0 (List.replicate n false) = some (List.replicate n true) := by
  obtain ⟨l, h1, h2, h3⟩ := forN_inv (f := short_Heights_B1) (fun k l => l.length = n ∧ ∀ i, i < k → l.getD i false = true) (n := n) (k := 0) (s := List.replicate n false) ⟨by simp, fun i hi => by omega⟩ fun j s _ hj ⟨q1, q2⟩ => by
    refine ⟨s.set j true, ?_, by simp [q1], fun i hi => ?_⟩
    · unfold short_Heights_B1
      rw [ck_some (by omega)]
    · rw [getD_set']
      by_cases e : i = j
      · subst e; rw [if_pos ⟨rfl, by omega⟩]
      · rw [if_neg (fun x => e x.1)]; exact q2 i (by omega)
  rw [h1]
  congr 1
  refine eq_of_getD (d := false) (by simp [h2]) fun i hi => ?_
  rw [h3 i (by omega), getD_replicate', if_pos (by omega)]
theorem heights_eq {g : Graph} (hg : Ok g) : short_Heights_F g = some (if (relP g.as (g.n + 1).toNat (List.replicate g.n.toNat 0, List.replicate g.n.toNat true)).1 = true then ((relP g.as (g.n + 1).toNat (List.replicate g.n.toNat 0, List.replicate g.n.toNat true)).2.1, 0) else ([], 6)) := by
  have := hg.n0; have := hg.n1
  obtain ⟨h1, h2⟩ := relax_eq hg (F := List.replicate g.n.toNat 0) (K := List.replicate g.n.toNat true) ⟨by simp, by simp, fun i => by dsimp only; rw [zeros_getD]; omega, fun i => by dsimp only; rw [zeros_getD]; omega⟩
  unfold short_Heights_F
  rw [checkLong_ok hg, bind_some', if_neg (by simp), ck_some ⟨by omega, by omega⟩, trues_loop, bind_some', h1, bind_some']
  dsimp only
  have l0 := h2.l0; have l1 := h2.l1
  dsimp only at l0 l1
  rw [ck_some l0, ck_some (by rw [l1]; simp)]
  split <;> rename_i q
  · rw [if_neg (by simpa using q)]
  · rw [if_pos (by simpa using q)]
/-- heights as they ought to be -/
structure Heighted (g : Graph) (h : List Int) : Prop where
  len : h.length = g.n.toNat
  lo : ∀ i, -7800000 ≤ h.getD i 0
  hi : ∀ i, h.getD i 0 ≤ 0
  arc : ∀ a, a ∈ g.as → h.getD a.t.toNat 0 ≤ h.getD a.f.toNat 0 + a.c
theorem heights_cases {g : Graph} (hg : Ok g) : short_Heights_F g = some ([], 6) ∨ ∃ h, short_Heights_F g = some (h, 0) ∧ Heighted g h := by
  have := hg.n0; have := hg.n1
  rw [heights_eq hg]
  split
  · rename_i q
    obtain ⟨_, h2⟩ := relax_eq hg (F := List.replicate g.n.toNat 0) (K := List.replicate g.n.toNat true) ⟨by simp, by simp, fun i => by dsimp only; rw [zeros_getD]; omega, fun i => by dsimp only; rw [zeros_getD]; omega⟩
    have h3 := relP_stab q
    have h4 := relP_inv (L := g.as) (fun F K => K.length = g.n.toNat ∧ (∀ i, i < g.n.toNat → K.getD i false = true) ∧ ∀ i, F.getD i 0 ≤ 0) (m := (g.n + 1).toNat) (s := (List.replicate g.n.toNat 0, List.replicate g.n.toNat true)) (fun s a ha ⟨k1, k2, k3⟩ => by
      have hG := hg.arc a ha
      have := hG.t0; have := hG.t1
      unfold stp
      split
      · split
        · exact ⟨k1, k2, k3⟩
        · rename_i hn
          refine ⟨by simp [k1], fun i hi => ?_, fun i => ?_⟩
          · dsimp only
            rw [getD_set']
            split
            · rfl
            · exact k2 i hi
          · dsimp only
            rw [getD_set']
            split
            · have := k2 a.t.toNat (by omega)
              have := k3 a.t.toNat
              have : ¬ s.1.getD a.t.toNat 0 ≤ s.1.getD a.f.toNat 0 + a.c := fun x => hn ⟨by assumption, x⟩
              omega
            · exact k3 i
      · exact ⟨k1, k2, k3⟩) ⟨by simp, fun i hi => by dsimp only; rw [getD_replicate', if_pos hi], fun i => by dsimp only; rw [zeros_getD]; omega⟩
    refine .inr ⟨_, rfl, h2.l0, h2.lo, h4.2.2, fun a ha => ?_⟩
    have hG := hg.arc a ha
    have := hG.f0; have := hG.f1
    exact (h3 a ha (h4.2.1 _ (by omega))).2
  · exact .inl rfl
theorem heights_bad {g : Graph} (h : checkF g (-10000) ≠ 0) : short_Heights_F g = some ([], checkF g (-10000)) := by
  unfold short_Heights_F
  rw [checkLong_eq, bind_some', if_pos h]
def start (n : Int) (s : Int) : List Int × List Bool := (List.replicate n.toNat 0, (List.replicate n.toNat false).set s.toNat true)
theorem from_eq {g : Graph} (hg : Ok g) {s : Int} (h0 : 0 ≤ s) (h1 : s < g.n) : short_From_F g s = some (if (relP g.as (g.n + 1).toNat (start g.n s)).1 = true then ((relP g.as (g.n + 1).toNat (start g.n s)).2.1, (relP g.as (g.n + 1).toNat (start g.n s)).2.2, 0) else ([], [], 6)) ∧
    RI g.n 7800000 ((relP g.as (g.n + 1).toNat (start g.n s)).2.1, (relP g.as (g.n + 1).toNat (start g.n s)).2.2, true) := by
  have := hg.n0; have := hg.n1
  obtain ⟨q1, q2⟩ := relax_eq hg (F := (start g.n s).1) (K := (start g.n s).2) ⟨by simp [start], by simp [start], fun i => by dsimp only [start]; rw [zeros_getD]; omega, fun i => by dsimp only [start]; rw [zeros_getD]; omega⟩
  refine ⟨?_, q2⟩
  have q3 : short_relax_F g (List.replicate g.n.toNat (0 : Int)) ((List.replicate g.n.toNat false).set s.toNat true) = some (relP g.as (g.n + 1).toNat (start g.n s)) := q1
  unfold short_From_F
  rw [checkLong_ok hg, bind_some', if_neg (by simp), if_neg (by omega), if_neg (by omega), ck_some ⟨by omega, by omega⟩, ck_some ⟨by omega, by omega⟩, q3, bind_some']
  dsimp only
  have l0 := q2.l0; have l1 := q2.l1
  dsimp only at l0 l1
  rw [ck_some l0, ck_some l1]
  split <;> rename_i q
  · rw [if_neg (by simpa using q)]
  · rw [if_pos (by simpa using q)]
theorem from_out {g : Graph} (hg : Ok g) {s : Int} (h : s < 0 ∨ g.n ≤ s) : short_From_F g s = some ([], [], 4) := by
  unfold short_From_F
  rw [checkLong_ok hg, bind_some', if_neg (by simp)]
  split
  · rfl
  · rw [if_pos (by omega)]
theorem from_bad {g : Graph} (h : checkF g (-10000) ≠ 0) (s : Int) : short_From_F g s = some ([], [], checkF g (-10000)) := by
  unfold short_From_F
  rw [checkLong_eq, bind_some', if_pos h]
end Go.Proofs.Ytlpelkfcmeapiaa
