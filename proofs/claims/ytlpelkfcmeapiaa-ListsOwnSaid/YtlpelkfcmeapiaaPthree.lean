/- Where there are heights, From comes to rest: its lengths are those of shortest ways. -/
import Derived.Test.YtlpelkfcmeapiaaPshort
namespace Go.Proofs.Ytlpelkfcmeapiaa
open Go Go.Proofs.Ytlpelkfcmeapiaa.Sx
set_option linter.unusedVariables false
set_option linter.unusedSimpArgs false

/-- a way from s to x, so long -/
inductive Cost (L : List Arc) (s : Int) : Int → Int → Prop
  | nil : Cost L s s 0
  | snoc {w : Int} {a : Arc} (h : Cost L s a.f w) (ha : a ∈ L) : Cost L s a.t (w + a.c)
theorem cost_ge {L : List Arc} {s : Int} {h : List Int} (hh : ∀ a, a ∈ L → h.getD a.t.toNat 0 ≤ h.getD a.f.toNat 0 + a.c) : ∀ {x w : Int}, Cost L s x w → h.getD x.toNat 0 - h.getD s.toNat 0 ≤ w
  | _, _, .nil => by omega
  | _, _, .snoc (a := a) hc ha => by
    have := cost_ge hh hc
    have := hh a ha
    omega
abbrev St := List Int × List Bool
def rnd (L : List Arc) (s : St) : St := ((L.foldl stp (s.1, s.2, true)).1, (L.foldl stp (s.1, s.2, true)).2.1)
def itr (L : List Arc) : Nat → St → St
  | 0, s => s
  | m + 1, s => itr L m (rnd L s)
theorem itr_succ (L : List Arc) : ∀ (m : Nat) (s : St), itr L (m + 1) s = rnd L (itr L m s)
  | 0, s => rfl
  | m + 1, s => itr_succ L m (rnd L s)
theorem relP_quiet {L : List Arc} : ∀ {m : Nat} {s : St} {j : Nat}, j < m → (L.foldl stp ((itr L j s).1, (itr L j s).2, true)).2.2 = true → (relP L m s).1 = true
  | 0, s, j, hj, _ => absurd hj (by omega)
  | m + 1, s, j, hj, h => by
    rw [relP]
    by_cases hq : (L.foldl stp (s.1, s.2, true)).2.2 = true
    · rw [if_pos hq]
    · rw [if_neg hq]
      match j, hj, h with
      | 0, _, h => exact absurd h hq
      | j + 1, hj, h => exact relP_quiet (s := rnd L s) (j := j) (by omega) h
theorem fold_inv {L : List Arc} (V : RS → Prop) (hV : ∀ s a, a ∈ L → V s → V (stp s a)) : ∀ (M : List Arc), (∀ a, a ∈ M → a ∈ L) → ∀ s : RS, V s → V (M.foldl stp s)
  | [], _, s, h => h
  | a :: M, hM, s, h => fold_inv V hV M (fun b hb => hM b (by simp [hb])) _ (hV s a (hM a (by simp)) h)
theorem itr_inv {L : List Arc} (V : List Int → List Bool → Prop) (hV : ∀ s a, a ∈ L → V s.1 s.2.1 → V (stp s a).1 (stp s a).2.1) : ∀ {m : Nat} {s : St}, V s.1 s.2 → V (itr L m s).1 (itr L m s).2
  | 0, s, h => h
  | m + 1, s, h => itr_inv V hV (s := rnd L s) (fold_inv (fun u => V u.1 u.2.1) hV L (fun _ h => h) (s.1, s.2, true) h)

/-- what is reached is reached by a way -/
structure Att (n s0 : Int) (L : List Arc) (F : List Int) (K : List Bool) : Prop where
  l0 : F.length = n.toNat
  l1 : K.length = n.toNat
  way : ∀ x, 0 ≤ x → x < n → K.getD x.toNat false = true → Cost L s0 x (F.getD x.toNat 0)
  ks : K.getD s0.toNat false = true
  fs : F.getD s0.toNat 0 ≤ 0
theorem stp_att {n s0 : Int} {L : List Arc} {s : RS} {a : Arc} (ha : a ∈ L) (hG : Good n (-10000) a) (h0 : 0 ≤ s0) (H : Att n s0 L s.1 s.2.1) : Att n s0 L (stp s a).1 (stp s a).2.1 := by
  obtain ⟨F, K, q⟩ := s
  obtain ⟨l0, l1, way, ks, fs⟩ := H
  have := hG.f0; have := hG.f1; have := hG.t0; have := hG.t1
  unfold stp
  dsimp only at *
  by_cases h1 : K.getD a.f.toNat false = true
  · rw [if_pos h1]
    by_cases h2 : K.getD a.t.toNat false = true ∧ F.getD a.t.toNat 0 ≤ F.getD a.f.toNat 0 + a.c
    · rw [if_pos h2]; exact ⟨l0, l1, way, ks, fs⟩
    · rw [if_neg h2]
      have hw := Cost.snoc (way a.f (by omega) (by omega) h1) ha
      refine ⟨by simp [l0], by simp [l1], fun x hx0 hx1 hk => ?_, ?_, ?_⟩
      · dsimp only at hk ⊢
        rw [getD_set'] at hk ⊢
        by_cases e : x.toNat = a.t.toNat
        · have : x = a.t := by omega
          subst this
          rw [if_pos ⟨rfl, by omega⟩]; exact hw
        · rw [if_neg (fun z => e z.1)] at hk ⊢
          exact way x hx0 hx1 hk
      · dsimp only
        rw [getD_set']
        split
        · rfl
        · exact ks
      · dsimp only
        rw [getD_set']
        split
        · rename_i e
          rw [← e.1] at h2
          have : ¬ F.getD s0.toNat 0 ≤ F.getD a.f.toNat 0 + a.c := fun z => h2 ⟨ks, z⟩
          omega
        · exact fs
  · rw [if_neg h1]; exact ⟨l0, l1, way, ks, fs⟩
/-- less and less, more and more known -/
def Mo (s u : RS) : Prop := ∀ i, s.2.1.getD i false = true → u.2.1.getD i false = true ∧ u.1.getD i 0 ≤ s.1.getD i 0
theorem stp_mo (s : RS) (a : Arc) : Mo s (stp s a) := by
  intro i hi
  unfold stp
  split
  · split
    · exact ⟨hi, Int.le_refl _⟩
    · rename_i h2
      dsimp only
      rw [getD_set', getD_set']
      refine ⟨by split; rfl; exact hi, ?_⟩
      split
      · rename_i e
        rw [← e.1] at h2
        have : ¬ s.1.getD i 0 ≤ s.1.getD a.f.toNat 0 + a.c := fun z => h2 ⟨hi, z⟩
        omega
      · exact Int.le_refl _
  · exact ⟨hi, Int.le_refl _⟩
theorem fold_mo : ∀ (M : List Arc) (s : RS), Mo s (M.foldl stp s)
  | [], s => fun i hi => ⟨hi, Int.le_refl _⟩
  | a :: M, s => fun i hi => by
    have h1 := stp_mo s a i hi
    have h2 := fold_mo M (stp s a) i h1.1
    exact ⟨h2.1, Int.le_trans h2.2 h1.2⟩
theorem fold_step {n s0 : Int} {L : List Arc} (hL : ∀ a, a ∈ L → Good n (-10000) a) (h0 : 0 ≤ s0) {s : RS} (H : Att n s0 L s.1 s.2.1) {a : Arc} (ha : a ∈ L) (hk : s.2.1.getD a.f.toNat false = true) :
    (L.foldl stp s).2.1.getD a.t.toNat false = true ∧ (L.foldl stp s).1.getD a.t.toNat 0 ≤ s.1.getD a.f.toNat 0 + a.c := by
  obtain ⟨M1, M2, hM⟩ := List.append_of_mem ha
  have H1 := fold_inv (L := L) (fun u => Att n s0 L u.1 u.2.1) (fun u b hb h => stp_att hb (hL b hb) h0 h) M1 (fun b hb => by rw [hM]; simp [hb]) s H
  have m1 := fold_mo M1 s _ hk
  have e : L.foldl stp s = M2.foldl stp (stp (M1.foldl stp s) a) := by conv => { lhs; rw [hM] }; rw [List.foldl_append, List.foldl_cons]
  have hG := hL a ha
  have := hG.t0; have := hG.t1
  rw [e]
  have h2 : (stp (M1.foldl stp s) a).2.1.getD a.t.toNat false = true ∧ (stp (M1.foldl stp s) a).1.getD a.t.toNat 0 ≤ (M1.foldl stp s).1.getD a.f.toNat 0 + a.c := by
    have l0 := H1.l0; have l1 := H1.l1
    generalize M1.foldl stp s = u at m1 H1 l0 l1 ⊢
    unfold stp
    rw [if_pos m1.1]
    split
    · assumption
    · dsimp only
      rw [getD_set', getD_set', if_pos ⟨rfl, by omega⟩, if_pos ⟨rfl, by omega⟩]
      exact ⟨rfl, Int.le_refl _⟩
  have h3 := fold_mo M2 _ _ h2.1
  exact ⟨h3.1, by have := h3.2; have := h2.2; have := m1.2; omega⟩
/-- no way is shorter than what is known -/
def Fix (s0 : Int) (L : List Arc) (s : St) (x : Int) : Prop := s.2.getD x.toNat false = true ∧ ∀ w, Cost L s0 x w → s.1.getD x.toNat 0 ≤ w
theorem least_of {α : Type} (P : α → Prop) (f : α → Int) (hf : ∀ x, P x → 0 ≤ f x) (hx : ∃ x, P x) : ∃ x, P x ∧ ∀ y, P y → f x ≤ f y := by
  have : ∀ k : Nat, ∀ x, P x → (f x).toNat = k → ∃ x, P x ∧ ∀ y, P y → f x ≤ f y := by
    intro k
    induction k using Nat.strongRecOn with
    | ind k ih =>
      intro x hp hk
      by_cases h : ∃ y, P y ∧ f y < f x
      · obtain ⟨y, hy, hlt⟩ := h
        have := hf x hp; have := hf y hy
        exact ih (f y).toNat (by omega) y hy rfl
      · exact ⟨x, hp, fun y hy => Int.not_lt.1 fun z => h ⟨y, hy, z⟩⟩
  obtain ⟨x, hp⟩ := hx
  exact this _ x hp rfl
section
variable {n s0 : Int} {L : List Arc} {h : List Int}
theorem fix_start (hh : ∀ a, a ∈ L → h.getD a.t.toNat 0 ≤ h.getD a.f.toNat 0 + a.c) {s : St} (H : Att n s0 L s.1 s.2) : Fix s0 L s s0 :=
  ⟨H.ks, fun w hw => by have := cost_ge hh hw; have := H.fs; omega⟩
theorem fix_mono {s : St} {x : Int} (hL : ∀ a, a ∈ L → Good n (-10000) a) (h : Fix s0 L s x) : Fix s0 L (rnd L s) x := by
  have m := fold_mo L (s.1, s.2, true) x.toNat h.1
  exact ⟨m.1, fun w hw => Int.le_trans m.2 (h.2 w hw)⟩
theorem fix_grow (hL : ∀ a, a ∈ L → Good n (-10000) a) (hh : ∀ a, a ∈ L → h.getD a.t.toNat 0 ≤ h.getD a.f.toNat 0 + a.c) (h0 : 0 ≤ s0) {s : St} (H : Att n s0 L s.1 s.2)
    (hx : ∃ p : Int × Int, Cost L s0 p.1 p.2 ∧ ¬ Fix s0 L s p.1) : ∃ u, 0 ≤ u ∧ u < n ∧ ¬ Fix s0 L s u ∧ Fix s0 L (rnd L s) u := by
  obtain ⟨⟨y, w⟩, ⟨hw, hn⟩, least⟩ := least_of (fun p : Int × Int => Cost L s0 p.1 p.2 ∧ ¬ Fix s0 L s p.1) (fun p => p.2 + h.getD s0.toNat 0 - h.getD p.1.toNat 0) (fun p hp => by have := cost_ge hh hp.1; omega) hx
  dsimp only at hw hn least
  have walk : ∀ {x v : Int}, Cost L s0 x v → v + h.getD s0.toNat 0 - h.getD x.toNat 0 ≤ w + h.getD s0.toNat 0 - h.getD y.toNat 0 → ¬ Fix s0 L s x → ∃ u, 0 ≤ u ∧ u < n ∧ ¬ Fix s0 L s u ∧ Fix s0 L (rnd L s) u := by
    intro x v hc
    induction hc with
    | nil => intro _ hn; exact absurd (fix_start hh H) hn
    | @snoc v a hc ha ih =>
      intro hle hn
      have := hh a ha
      by_cases hf : Fix s0 L s a.f
      · have hG := hL a ha
        refine ⟨a.t, hG.t0, hG.t1, hn, ?_⟩
        have st := fold_step hL h0 (s := (s.1, s.2, true)) H ha hf.1
        refine ⟨st.1, fun w2 hw2 => ?_⟩
        have := least (a.t, w2) ⟨hw2, hn⟩
        have := hf.2 _ hc
        have := st.2
        dsimp only [rnd] at *
        omega
      · exact ih (by omega) hf
  exact walk hw (Int.le_refl _) hn
theorem att_itr (hL : ∀ a, a ∈ L → Good n (-10000) a) (h0 : 0 ≤ s0) {s : St} (H : Att n s0 L s.1 s.2) (r : Nat) : Att n s0 L (itr L r s).1 (itr L r s).2 :=
  itr_inv (fun F K => Att n s0 L F K) (fun u b hb h => stp_att hb (hL b hb) h0 h) H
open Classical in
theorem fix_all (hL : ∀ a, a ∈ L → Good n (-10000) a) (hh : ∀ a, a ∈ L → h.getD a.t.toNat 0 ≤ h.getD a.f.toNat 0 + a.c) (h0 : 0 ≤ s0) (h1 : s0 < n) {s : St} (H : Att n s0 L s.1 s.2) : ∀ r : Nat,
    (∀ y w, Cost L s0 y w → Fix s0 L (itr L r s) y) ∨ r < cnt (fun x => decide (Fix s0 L (itr L r s) (x : Int))) n.toNat
  | 0 => .inr (cnt_pos (y := s0.toNat) (by omega) (by rw [show ((s0.toNat : Nat) : Int) = s0 by omega]; exact decide_eq_true (fix_start hh H)))
  | r + 1 => by
    have A := att_itr hL h0 H r
    rcases fix_all hL hh h0 h1 H r with q | q
    · exact .inl fun y w hw => by rw [itr_succ]; exact fix_mono hL (q y w hw)
    · by_cases hx : ∃ p : Int × Int, Cost L s0 p.1 p.2 ∧ ¬ Fix s0 L (itr L r s) p.1
      · obtain ⟨u, u0, u1, u2, u3⟩ := fix_grow hL hh h0 A hx
        right
        have := cnt_lt (S := fun x => decide (Fix s0 L (itr L r s) (x : Int))) (T := fun x => decide (Fix s0 L (itr L (r + 1) s) (x : Int))) (n := n.toNat) (y := u.toNat) (fun x _ hx => by
          simp only [decide_eq_true_eq] at hx ⊢
          rw [itr_succ]; exact fix_mono hL hx) (by omega) (by
          rw [show ((u.toNat : Nat) : Int) = u by omega, itr_succ]; exact decide_eq_true u3) (by
          rw [show ((u.toNat : Nat) : Int) = u by omega]; exact decide_eq_false u2)
        omega
      · exact .inl fun y w hw => by rw [itr_succ]; exact fix_mono hL (Classical.byContradiction fun z => hx ⟨(y, w), hw, z⟩)
theorem stp_rest {s : RS} {a : Arc} (h : Stab s.1 s.2.1 a) : stp s a = s := by
  unfold stp
  split
  · rename_i h1
    rw [if_pos (h h1)]
  · rfl
theorem fold_rest : ∀ {M : List Arc} {s : RS}, (∀ a, a ∈ M → Stab s.1 s.2.1 a) → M.foldl stp s = s
  | [], _, _ => rfl
  | a :: M, s, h => by rw [List.foldl_cons, stp_rest (h a (by simp))]; exact fold_rest fun b hb => h b (by simp [hb])
theorem relP_rests (hL : ∀ a, a ∈ L → Good n (-10000) a) (hh : ∀ a, a ∈ L → h.getD a.t.toNat 0 ≤ h.getD a.f.toNat 0 + a.c) (h0 : 0 ≤ s0) (h1 : s0 < n) {s : St} (H : Att n s0 L s.1 s.2) : (relP L (n + 1).toNat s).1 = true := by
  have all : ∀ y w, Cost L s0 y w → Fix s0 L (itr L n.toNat s) y := by
    rcases fix_all hL hh h0 h1 H n.toNat with q | q
    · exact q
    · have := cnt_le (fun x => open Classical in decide (Fix s0 L (itr L n.toNat s) (x : Int))) n.toNat
      omega
  have A := att_itr hL h0 H n.toNat
  refine relP_quiet (j := n.toNat) (by omega) ?_
  rw [fold_rest]
  intro a ha hk
  have hG := hL a ha
  have hw := A.way a.f hG.f0 hG.f1 hk
  have := all _ _ (Cost.snoc hw ha)
  exact ⟨this.1, this.2 _ (Cost.snoc hw ha)⟩
end
/-- what From answers where there are heights -/
structure Away (g : Graph) (s : Int) (F : List Int) (K : List Bool) : Prop where
  l0 : F.length = g.n.toNat
  l1 : K.length = g.n.toNat
  zero : F.getD s.toNat 0 = 0
  lo : ∀ i, -7800000 ≤ F.getD i 0
  hi : ∀ i, F.getD i 0 ≤ 7800000
  way : ∀ x, 0 ≤ x → x < g.n → K.getD x.toNat false = true → Cost g.as s x (F.getD x.toNat 0)
  stab : ∀ a, a ∈ g.as → Stab F K a
  ks : K.getD s.toNat false = true
theorem from_awayH {g : Graph} (hg : Ok g) {h : List Int} (hh : ∀ a, a ∈ g.as → h.getD a.t.toNat 0 ≤ h.getD a.f.toNat 0 + a.c) {s : Int} (h0 : 0 ≤ s) (h1 : s < g.n) : ∃ F K, short_From_F g s = some (F, K, 0) ∧ Away g s F K := by
  have hs : Att g.n s g.as (start g.n s).1 (start g.n s).2 := by
    refine ⟨by simp [start], by simp [start], fun x hx0 hx1 hk => ?_, ?_, ?_⟩
    · dsimp only [start] at hk ⊢
      rw [getD_set'] at hk
      rw [zeros_getD]
      by_cases e : x.toNat = s.toNat
      · have : x = s := by omega
        subst this; exact Cost.nil
      · rw [if_neg (fun z => e z.1)] at hk; rw [getD_replicate'] at hk; split at hk <;> cases hk
    · dsimp only [start]
      rw [getD_set', if_pos ⟨rfl, by simp; omega⟩]
    · dsimp only [start]
      rw [zeros_getD]; omega
  have hq := relP_rests hg.arc hh h0 h1 hs
  obtain ⟨f1, r1⟩ := from_eq hg h0 h1
  rw [if_pos hq] at f1
  have A : Att g.n s g.as (relP g.as (g.n + 1).toNat (start g.n s)).2.1 (relP g.as (g.n + 1).toNat (start g.n s)).2.2 := relP_inv (fun F K => Att g.n s g.as F K) (fun u b hb h => stp_att hb (hg.arc b hb) h0 h) hs
  refine ⟨_, _, f1, A.l0, A.l1, ?_, r1.lo, r1.hi, A.way, relP_stab hq, A.ks⟩
  have := cost_ge hh (A.way s h0 h1 A.ks)
  have := A.fs
  omega
theorem from_away {g : Graph} (hg : Ok g) {h : List Int} (hh : Heighted g h) {s : Int} (h0 : 0 ≤ s) (h1 : s < g.n) : ∃ F K, short_From_F g s = some (F, K, 0) ∧ Away g s F K := from_awayH hg hh.arc h0 h1
theorem Away.le {g : Graph} {s : Int} {F : List Int} {K : List Bool} (H : Away g s F K) {m : Int} : ∀ {x w : Int}, Cost g.as m x w → K.getD m.toNat false = true → K.getD x.toNat false = true ∧ F.getD x.toNat 0 ≤ F.getD m.toNat 0 + w
  | _, _, .nil, hk => ⟨hk, by omega⟩
  | _, _, .snoc (a := a) hc ha, hk => by
    have h1 := Away.le H hc hk
    have h2 := H.stab a ha h1.1
    exact ⟨h2.1, by have := h2.2; have := h1.2; omega⟩
theorem app_getD {α : Type} {l : List α} {x d : α} {i : Nat} : (l ++ [x]).getD i d = if i = l.length then x else l.getD i d := by
  simp only [List.getD_eq_getElem?_getD, List.getElem?_append]
  by_cases h : i < l.length
  · rw [if_pos h, if_neg (by omega)]
  · rw [if_neg h]
    by_cases e : i = l.length
    · rw [if_pos e]; simp [e]
    · rw [if_neg e, List.getElem?_eq_none (by simp; omega), List.getElem?_eq_none (by omega)]
structure Alls (g : Graph) (k : Nat) (d : List (List Int)) (kn : List (List Bool)) : Prop where
  l0 : d.length = k
  l1 : kn.length = k
  row : ∀ i, i < k → Away g (i : Int) (d.getD i []) (kn.getD i [])
theorem all_ok {g : Graph} (hg : Ok g) {h : List Int} (hh : Heighted g h) (e : short_Heights_F g = some (h, 0)) : ∃ d kn, short_All_F g = some (d, kn, 0) ∧ Alls g g.n.toNat d kn := by
  have := hg.n0; have := hg.n1; have hl := hh.len
  obtain ⟨⟨d, kn⟩, h1, h2⟩ := forN_inv (f := short_All_B1 g) (fun k s => Alls g k s.1 s.2) (n := h.length) (k := 0) (s := ([], [])) ⟨rfl, rfl, fun i hi => by omega⟩ fun j s _ hj q => by
    obtain ⟨d, kn⟩ := s
    obtain ⟨F, K, f1, A⟩ := from_away hg hh (s := (j : Int)) (by omega) (by omega)
    have l0 := q.l0; have l1 := q.l1
    dsimp only at l0 l1
    refine ⟨(d ++ [F], kn ++ [K]), ?_, by simp [l0], by simp [l1], fun i hi => ?_⟩
    · unfold short_All_B1
      dsimp only
      rw [f1, bind_some']
      dsimp only
      rw [ck_some (by omega), ck_some (by omega)]
    · dsimp only
      rw [app_getD, app_getD, l0, l1]
      by_cases e : i = j
      · subst e; rw [if_pos rfl, if_pos rfl]; exact A
      · rw [if_neg e, if_neg e]; exact q.row i (by omega)
  refine ⟨d, kn, ?_, by rw [show g.n.toNat = 0 + h.length by omega]; exact h2⟩
  unfold short_All_F
  rw [e, bind_some']
  dsimp only
  rw [if_neg (by simp), h1, bind_some']
theorem all_bad {g : Graph} {e : Int} (h : short_Heights_F g = some ([], e)) (he : e ≠ 0) : short_All_F g = some ([], [], e) := by
  unfold short_All_F
  rw [h, bind_some']
  dsimp only
  rw [if_pos he]
end Go.Proofs.Ytlpelkfcmeapiaa
