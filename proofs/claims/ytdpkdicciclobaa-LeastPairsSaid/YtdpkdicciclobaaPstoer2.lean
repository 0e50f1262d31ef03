/- Package least: merging two that belong together; what Of answers. -/
import Derived.Test.YtdpkdicciclobaaPstoer
namespace Go.Proofs.Ytdpkdicciclobaa
open Go Go.Proofs.Ytdpkdicciclobaa.Sx
set_option linter.unusedVariables false
set_option linter.unusedSimpArgs false
/-! ### what leads from group to group -/
def arcW (π : Nat → Nat) (i j : Nat) (a : Arc) : Int := if (π a.f.toNat = i ∧ π a.t.toNat = j) ∨ (π a.f.toNat = j ∧ π a.t.toNat = i) then a.c else 0
def wt (g : Graph) (π : Nat → Nat) (i j : Nat) : Int := lsA (arcW π i j) g.as
theorem lsA_le {f h : Arc → Int} : ∀ {l : List Arc}, (∀ a, a ∈ l → f a ≤ h a) → lsA f l ≤ lsA h l
  | [], _ => Int.le_refl _
  | a :: l, e => by
    have h1 := e a (by simp)
    have h2 := lsA_le (l := l) fun b hb => e b (by simp [hb])
    simp only [lsA]; omega
theorem lsA_tot {f : Nat → Arc → Int} : ∀ (l : List Arc) (m : Nat), tot (fun i => lsA (f i) l) m = lsA (fun a => tot (fun i => f i a) m) l
  | [], m => tot_zero fun _ _ => rfl
  | a :: l, m => by
    have : tot (fun i => lsA (f i) (a :: l)) m = tot (fun i => f i a + lsA (f i) l) m := tot_congr fun i _ => rfl
    rw [this, tot_add, lsA_tot l m]; rfl
theorem tot_ite {p : Nat → Prop} [DecidablePred p] {c : Int} (hc : 0 ≤ c) {Q : Prop} [Decidable Q] : ∀ {m : Nat}, (∀ a b, a < m → b < m → p a → p b → a = b) → (∀ a, a < m → p a → Q) → tot (fun a => if p a then c else 0) m ≤ if Q then c else 0
  | 0, _, _ => by rw [tot]; split <;> omega
  | m + 1, h1, h2 => by
    rw [tot]
    by_cases e : p m
    · rw [if_pos e, if_pos (h2 m (by omega) e), tot_zero (fun a ha => if_neg (fun z => by have := h1 a m (by omega) (by omega) z e; omega))]; omega
    · rw [if_neg e, Int.add_zero]
      exact tot_ite hc (m := m) (fun a b ha hb => h1 a b (by omega) (by omega)) (fun a ha => h2 a (by omega))
theorem tot_has {p : Nat → Prop} [DecidablePred p] {c : Int} (hc : 0 ≤ c) {m a0 : Nat} (h : a0 < m) (hp : p a0) : c ≤ tot (fun a => if p a then c else 0) m := by
  have := tot_le (f := fun a => if a = a0 then c else 0) (g := fun a => if p a then c else 0) (n := m) fun a _ => by
    by_cases e : a = a0
    · subst e; rw [if_pos rfl, if_pos hp]; exact Int.le_refl _
    · rw [if_neg e]; split <;> omega
  rw [tot_single h (fun i _ hi => if_neg hi), if_pos rfl] at this
  exact this
def Proper (n : Nat) (X : Nat → Bool) : Prop := (∃ u, u < n ∧ X u = true) ∧ ∃ u, u < n ∧ X u = false
structure Grp (g : Graph) (f : Nat → Int) (l : List Int) (π : Nat → Nat) : Prop where
  nd : l.Nodup
  rng : ∀ x, x ∈ l → 0 ≤ x ∧ x < g.n
  hit : ∀ u, u < g.n.toNat → ((π u : Nat) : Int) ∈ l
  fix : ∀ x : Nat, (x : Int) ∈ l → π x = x
  w : ∀ i j : Nat, (i : Int) ∈ l → (j : Int) ∈ l → i ≠ j → WF f i j = wt g π i j
  lo : ∀ i j, i < 12 → j < 12 → 0 ≤ WF f i j ∧ WF f i j ≤ ((600000 * 2 ^ (12 - l.length) : Nat) : Int)
theorem pow_small (k : Nat) : (600000 * 2 ^ (12 - k) : Nat) ≤ 2457600000 := by
  have := Nat.pow_le_pow_right (n := 2) (by decide) (show 12 - k ≤ 12 by omega)
  rw [show (2 : Nat) ^ 12 = 4096 from rfl] at this
  omega
theorem wt_sym (g : Graph) (π : Nat → Nat) (i j : Nat) : wt g π i j = wt g π j i := by
  unfold wt
  refine lsA_congr fun a _ => ?_
  unfold arcW
  by_cases c : (π a.f.toNat = i ∧ π a.t.toNat = j) ∨ (π a.f.toNat = j ∧ π a.t.toNat = i)
  · rw [if_pos c, if_pos (Or.comm.1 c)]
  · rw [if_neg c, if_neg (fun z => c (Or.comm.1 z))]
theorem across_one (π : Nat → Nat) (last : Nat) (a : Arc) : across (indS fun u => decide (π u = last)) a = if (π a.f.toNat = last ↔ π a.t.toNat = last) then 0 else a.c := by
  unfold across indS
  by_cases p : π a.f.toNat = last <;> by_cases q : π a.t.toNat = last <;> simp [p, q]
/-- the cut of the last one: and no cut that parts the last two takes less -/
theorem phase {g : Graph} (h : OkP g) {f : Nat → Int} {l : List Int} {π : Nat → Nat} (hG : Grp g f l π) {v : Nat → Nat} {last ahead : Nat} {c : Int} (hO : OrdD f l v (last : Int) (ahead : Int) c) (h2 : 2 ≤ l.length) :
    overG g (fun u => decide (π u = last)) ≤ c ∧ ∀ X : Nat → Bool, (∀ u, u < g.n.toNat → X (π u) = X u) → X last ≠ X ahead → c ≤ overG g X := by
  have n1 := h.ok.n1
  have el : last = v (l.length - 1) := by have := hO.la; omega
  have ea : ahead = v (l.length - 2) := by have := hO.ah; omega
  have wv : ∀ a b, a < l.length → b < l.length → a ≠ b → WF f (v a) (v b) = wt g π (v a) (v b) := fun a b ha hb hne => hG.w _ _ (hO.o.mem a ha) (hO.o.mem b hb) fun z => hne (hO.o.inj a b ha hb z)
  have cap : ∀ a, a ∈ g.as → 0 ≤ a.c := fun a ha => (h.ok.arc a ha).c0
  have who : ∀ a, a ∈ g.as → a.f.toNat < g.n.toNat ∧ a.t.toNat < g.n.toNat := fun a ha => by
    have G := h.ok.arc a ha
    have := G.f0; have := G.f1; have := G.t0; have := G.t1
    omega
  constructor
  · have e1 : c = lsA (fun a => tot (fun i => arcW π (v i) last a) (l.length - 1)) g.as := by
      rw [hO.cut, ← lsA_tot]
      refine tot_congr fun i hi => ?_
      rw [wv i (l.length - 1) (by omega) (by omega) (by omega), ← el]; rfl
    rw [e1]
    refine lsA_le fun a ha => ?_
    obtain ⟨f1, t1⟩ := who a ha
    rw [across_one]
    unfold arcW
    by_cases p : π a.f.toNat = last <;> by_cases q : π a.t.toNat = last
    · rw [if_pos ⟨fun _ => q, fun _ => p⟩]
      exact tot_nonneg fun i _ => by split; exact cap a ha; exact Int.le_refl _
    · obtain ⟨i, hi, ei⟩ := hO.all _ (hG.hit _ t1)
      have hil : i < l.length - 1 := Classical.byContradiction fun z => q (by rw [← ei, el, show i = l.length - 1 by omega])
      rw [if_neg (fun z => q (z.1 p))]
      exact tot_has (p := fun i => (π a.f.toNat = v i ∧ π a.t.toNat = last) ∨ (π a.f.toNat = last ∧ π a.t.toNat = v i)) (cap a ha) hil (.inr ⟨p, ei.symm⟩)
    · obtain ⟨i, hi, ei⟩ := hO.all _ (hG.hit _ f1)
      have hil : i < l.length - 1 := Classical.byContradiction fun z => p (by rw [← ei, el, show i = l.length - 1 by omega])
      rw [if_neg (fun z => p (z.2 q))]
      exact tot_has (p := fun i => (π a.f.toNat = v i ∧ π a.t.toNat = last) ∨ (π a.f.toNat = last ∧ π a.t.toNat = v i)) (cap a ha) hil (.inl ⟨ei.symm, q⟩)
    · rw [if_pos ⟨fun z => absurd z p, fun z => absurd z q⟩]
      exact tot_nonneg fun i _ => by split; exact cap a ha; exact Int.le_refl _
  · intro X hX hne
    have om := order_min (v := v) (W := fun i j => if i < 12 ∧ j < 12 then WF f i j else 0) (N := fun x => (x : Int) ∈ l) (m := l.length) (fun i j => by
      split
      · rename_i z; exact (hG.lo i j z.1 z.2).1
      · exact Int.le_refl _) hO.o.mem hO.o.inj (fun q hq x hx hd => by
      have rx := hG.rng _ hx
      have e : ∀ y : Nat, y < 12 → tot (fun a => if v a < 12 ∧ y < 12 then WF f (v a) y else 0) q = tot (fun a => WF f (v a) y) q := fun y hy => tot_congr fun a ha => by
        have := hG.rng _ (hO.o.mem a (by omega))
        rw [if_pos ⟨by omega, hy⟩]
      have rq := hG.rng _ (hO.o.mem q hq)
      rw [e x (by omega), e (v q) (by omega)]
      exact hO.o.ma q hq x hx hd) X h2 (by rw [← el, ← ea]; exact hne)
    have in12 : ∀ a, a < l.length → v a < 12 := fun a ha => by have := hG.rng _ (hO.o.mem a ha); omega
    have e0 : tot (fun a => if v a < 12 ∧ v (l.length - 1) < 12 then WF f (v a) (v (l.length - 1)) else 0) (l.length - 1) = c := by
      rw [hO.cut]
      refine tot_congr fun a ha => ?_
      rw [if_pos ⟨in12 a (by omega), in12 _ (by omega)⟩]
    rw [e0] at om
    refine Int.le_trans om ?_
    -- each arc is counted once at most
    have e1 : crossY v (fun i j => if i < 12 ∧ j < 12 then WF f i j else 0) X l.length = lsA (fun a => tot (fun b => tot (fun i => if X (v i) = X (v b) then 0 else arcW π (v i) (v b) a) b) l.length) g.as := by
      unfold crossY otherY
      rw [← lsA_tot]
      refine tot_congr fun b hb => ?_
      rw [← lsA_tot]
      refine tot_congr fun i hi => ?_
      show (if X (v i) = X (v b) then 0 else if v i < 12 ∧ v b < 12 then WF f (v i) (v b) else 0) = _
      by_cases q : X (v i) = X (v b)
      · have z : ∀ l : List Arc, lsA (fun _ => 0) l = 0 := fun l => by
          induction l with
          | nil => rfl
          | cons a l ih => rw [lsA, ih]; rfl
        have e3 : (fun a => if X (v i) = X (v b) then 0 else arcW π (v i) (v b) a) = fun _ => 0 := funext fun a => if_pos q
        rw [if_pos q, e3, z]
      · have e3 : (fun a => if X (v i) = X (v b) then 0 else arcW π (v i) (v b) a) = arcW π (v i) (v b) := funext fun a => if_neg q
        rw [if_neg q, e3, if_pos ⟨in12 i (by omega), in12 b hb⟩, wv i b (by omega) hb (by omega)]; rfl
    rw [e1]
    refine lsA_le fun a ha => ?_
    obtain ⟨f1, t1⟩ := who a ha
    obtain ⟨p, hp, ep⟩ := hO.all _ (hG.hit _ f1)
    obtain ⟨q, hq, eq⟩ := hO.all _ (hG.hit _ t1)
    have hc := cap a ha
    have xf := hX _ f1
    have xt := hX _ t1
    -- the two places
    have uniq : ∀ i b, i < b → b < l.length → ((π a.f.toNat = v i ∧ π a.t.toNat = v b) ∨ (π a.f.toNat = v b ∧ π a.t.toNat = v i)) → i = min p q ∧ b = max p q := fun i b hib hb w => by
      rcases w with ⟨w1, w2⟩ | ⟨w1, w2⟩
      · have := hO.o.inj p i hp (by omega) (ep.trans w1)
        have := hO.o.inj q b hq hb (eq.trans w2)
        omega
      · have := hO.o.inj p b hp hb (ep.trans w1)
        have := hO.o.inj q i hq (by omega) (eq.trans w2)
        omega
    have inner : ∀ b, b < l.length → tot (fun i => if X (v i) = X (v b) then 0 else arcW π (v i) (v b) a) b ≤ if b = max p q ∧ X a.f.toNat ≠ X a.t.toNat then a.c else 0 := fun b hb => by
      have e2 : tot (fun i => if X (v i) = X (v b) then 0 else arcW π (v i) (v b) a) b = tot (fun i => if X (v i) ≠ X (v b) ∧ ((π a.f.toNat = v i ∧ π a.t.toNat = v b) ∨ (π a.f.toNat = v b ∧ π a.t.toNat = v i)) then a.c else 0) b := tot_congr fun i _ => by
        unfold arcW
        by_cases c1 : X (v i) = X (v b)
        · rw [if_pos c1, if_neg (fun z => z.1 c1)]
        · rw [if_neg c1]
          by_cases c2 : (π a.f.toNat = v i ∧ π a.t.toNat = v b) ∨ (π a.f.toNat = v b ∧ π a.t.toNat = v i)
          · rw [if_pos c2, if_pos ⟨c1, c2⟩]
          · rw [if_neg c2, if_neg (fun z => c2 z.2)]
      rw [e2]
      refine tot_ite (p := fun i => X (v i) ≠ X (v b) ∧ ((π a.f.toNat = v i ∧ π a.t.toNat = v b) ∨ (π a.f.toNat = v b ∧ π a.t.toNat = v i))) hc (fun i j hi hj wi wj => by
        have := (uniq i b hi hb wi.2).1
        have := (uniq j b hj hb wj.2).1
        omega) fun i hi wi => ⟨(uniq i b hi hb wi.2).2, fun z => wi.1 ?_⟩
      rcases wi.2 with ⟨w1, w2⟩ | ⟨w1, w2⟩
      · rw [← w1, ← w2, xf, xt, z]
      · rw [← w1, ← w2, xf, xt, z]
    have s1 := tot_le inner
    have s2 := tot_ite (p := fun b => b = max p q ∧ X a.f.toNat ≠ X a.t.toNat) (Q := X a.f.toNat ≠ X a.t.toNat) hc (m := l.length) (fun i j _ _ wi wj => wi.1.trans wj.1.symm) (fun i _ wi => wi.2)
    have s3 : (if X a.f.toNat ≠ X a.t.toNat then a.c else 0) ≤ across (indS X) a := by
      unfold across indS
      cases X a.f.toNat <;> cases X a.t.toNat <;> simp <;> omega
    omega
/-! ### merging -/
def mergeP (π : Nat → Nat) (last ahead : Nat) (u : Nat) : Nat := if π u = last then ahead else π u
theorem wt_merge {g : Graph} {π : Nat → Nat} {last ahead k : Nat} (h1 : k ≠ last) (h2 : k ≠ ahead) (h3 : last ≠ ahead) : wt g (mergeP π last ahead) ahead k = wt g π ahead k + wt g π last k := by
  unfold wt
  have add : ∀ (l : List Arc) (p q : Arc → Int), lsA p l + lsA q l = lsA (fun a => p a + q a) l := fun l p q => by
    induction l with
    | nil => rfl
    | cons a l ih => simp only [lsA]; omega
  rw [add]
  refine lsA_congr fun a _ => ?_
  unfold arcW mergeP
  generalize π a.f.toNat = x
  generalize π a.t.toNat = y
  by_cases c1 : x = last <;> by_cases c2 : y = last
  · subst c1; subst c2; simp only [if_true]; rw [if_neg (by omega), if_neg (by omega), if_neg (by omega)]; rfl
  · subst c1; simp only [if_true]; rw [if_neg c2]
    by_cases c3 : y = k
    · rw [if_pos (.inl ⟨trivial, c3⟩), if_neg (by omega), if_pos (.inl ⟨trivial, c3⟩)]; omega
    · rw [if_neg (by omega), if_neg (by omega), if_neg (by omega)]; rfl
  · subst c2; simp only [if_true]; rw [if_neg c1]
    by_cases c3 : x = k
    · rw [if_pos (.inr ⟨c3, trivial⟩), if_neg (by omega), if_pos (.inr ⟨c3, trivial⟩)]; omega
    · rw [if_neg (by omega), if_neg (by omega), if_neg (by omega)]; rfl
  · rw [if_neg c1, if_neg c2]
    have : ¬ ((x = last ∧ y = k) ∨ (x = k ∧ y = last)) := by omega
    rw [if_neg this, Int.add_zero]
theorem wt_keep {g : Graph} {π : Nat → Nat} {last ahead i j : Nat} (h1 : i ≠ last) (h2 : i ≠ ahead) (h3 : j ≠ last) (h4 : j ≠ ahead) : wt g (mergeP π last ahead) i j = wt g π i j := by
  unfold wt
  refine lsA_congr fun a _ => ?_
  unfold arcW mergeP
  generalize π a.f.toNat = x
  generalize π a.t.toNat = y
  by_cases c1 : x = last <;> by_cases c2 : y = last
  · rw [if_pos c1, if_pos c2, if_neg (by omega), if_neg (by omega)]
  · rw [if_pos c1, if_neg c2, if_neg (by omega), if_neg (by omega)]
  · rw [if_neg c1, if_pos c2, if_neg (by omega), if_neg (by omega)]
  · rw [if_neg c1, if_neg c2]
theorem flat_inj {i j i' j' : Nat} (h : j < 12) (h' : j' < 12) : i * 12 + j = i' * 12 + j' ↔ i = i' ∧ j = j' := by omega
theorem WF_upd {F : Nat → Int} {a b i j : Nat} (hb : b < 12) (hj : j < 12) (s : Int) : WF (updF F (a * 12 + b) s) i j = if i = a ∧ j = b then s else WF F i j := by
  show (if i * 12 + j = a * 12 + b then s else F (i * 12 + j)) = _
  by_cases c : i = a ∧ j = b
  · rw [if_pos c, if_pos (by omega)]
  · rw [if_neg c, if_neg (by omega)]
theorem merge_loop {l : List Int} (hn : l.Nodup) (hr : ∀ x, x ∈ l → 0 ≤ x ∧ x < 12) {f : Nat → Int} {last ahead : Nat} (hl : last < 12) (ha : ahead < 12) (hne : last ≠ ahead) {B : Int} (hB : ∀ i j, i < 12 → j < 12 → 0 ≤ WF f i j ∧ WF f i j ≤ B) (hBB : B ≤ 10000000000) :
    ∃ f' l', forN (least_Of_B4 l (last : Int) (ahead : Int)) l.length 0 (f, []) = some (f', l') ∧ l' = l.filter (fun x => decide (x ≠ (last : Int))) ∧ (∀ i j, i < 12 → j < 12 → 0 ≤ WF f' i j ∧ WF f' i j ≤ 2 * B) ∧
      (∀ k : Nat, (k : Int) ∈ l → k ≠ last → k ≠ ahead → WF f' ahead k = WF f ahead k + WF f last k ∧ WF f' k ahead = WF f ahead k + WF f last k) ∧ ∀ i j, i < 12 → j < 12 → i ≠ ahead → j ≠ ahead → WF f' i j = WF f i j := by
  have B0 : 0 ≤ B := by have := hB 0 0 (by decide) (by decide); omega
  have hl12 : l.length ≤ 12 := by rw [← cnt_inL hn hr]; exact cnt_le _ 12
  obtain ⟨⟨f', l'⟩, e, i1, i2, i3, i4, i5, i6⟩ := forN_inv (f := least_Of_B4 l (last : Int) (ahead : Int)) (fun m (σ : (Nat → Int) × List Int) => σ.2 = (l.take m).filter (fun x => decide (x ≠ (last : Int))) ∧ (∀ i j, i < 12 → j < 12 → 0 ≤ WF σ.1 i j ∧ WF σ.1 i j ≤ 2 * B) ∧
      (∀ k : Nat, (∃ i, i < m ∧ l.getD i 0 = (k : Int)) → k ≠ last → k ≠ ahead → WF σ.1 ahead k = WF f ahead k + WF f last k ∧ WF σ.1 k ahead = WF f ahead k + WF f last k) ∧
      (∀ k : Nat, k < 12 → ¬ (∃ i, i < m ∧ l.getD i 0 = (k : Int)) → WF σ.1 ahead k = WF f ahead k) ∧ (∀ i j, i < 12 → j < 12 → i ≠ ahead → j ≠ ahead → WF σ.1 i j = WF f i j) ∧ ∀ j, j < 12 → WF σ.1 last j = WF f last j) (n := l.length) (k := 0) (s := (f, [])) ⟨rfl, fun i j hi hj => by have := hB i j hi hj; dsimp only; omega, fun k ⟨i, hi, _⟩ => absurd hi (by omega), fun k _ _ => rfl, fun i j _ _ _ _ => rfl, fun j _ => rfl⟩ fun m σ _ hm ⟨i1, i2, i3, i4, i5, i6⟩ => by
    obtain ⟨F, L⟩ := σ
    dsimp only at i1 i2 i3 i4 i5 i6 ⊢
    have hm' : m < l.length := by omega
    have hmem := mem_getD (d := (0 : Int)) hm'
    have r := hr _ hmem
    obtain ⟨k, ek⟩ : ∃ k : Nat, l.getD m 0 = (k : Int) := ⟨(l.getD m 0).toNat, by omega⟩
    have hk12 : k < 12 := by omega
    have notyet : ¬ ∃ i, i < m ∧ l.getD i 0 = (k : Int) := fun ⟨i, hi, ei⟩ => by
      have := nodup_getD hn (by omega) hm' (ei.trans ek.symm)
      omega
    have eL : (l.take (m + 1)).filter (fun x => decide (x ≠ (last : Int))) = L ++ (if k ≠ last then [(k : Int)] else []) := by
      rw [List.take_add_one, List.filter_append, ← i1]
      refine congrArg (L ++ ·) ?_
      have : l[m]? = some (k : Int) := by rw [List.getElem?_eq_getElem hm', ← ek, List.getD_eq_getElem?_getD, List.getElem?_eq_getElem hm']; rfl
      rw [this]
      show List.filter _ [(k : Int)] = _
      by_cases c : k = last
      · subst c; simp
      · rw [if_pos c, List.filter_cons, if_pos (decide_eq_true (by omega)), List.filter_nil]
    unfold least_Of_B4
    dsimp only
    rw [ek]
    by_cases c : (k : Int) ≠ (last : Int)
    · have hkl : k ≠ last := by omega
      have b1 := i2 ahead k ha hk12
      have b2 := i2 last k hl hk12
      have a1 := i4 k hk12 notyet
      have a2 : WF F last k = WF f last k := i6 k hk12
      have c1 := hB ahead k ha hk12
      have c2 := hB last k hl hk12
      obtain ⟨s, es⟩ : ∃ s, s = WF f ahead k + WF f last k := ⟨_, rfl⟩
      rw [if_pos c, ck_some (by have := List.length_filter_le (fun x => decide (x ≠ (last : Int))) (l.take m); have := List.length_take_le m l; rw [i1]; omega), ck_some ⟨by omega, by omega⟩, Int.toNat_natCast, Int.toNat_natCast, Int.toNat_natCast]
      rw [show F (ahead * 12 + k) = WF f ahead k from a1, show F (last * 12 + k) = WF f last k from a2, ck_some (show InI (WF f ahead k + WF f last k) by unfold InI; omega), ← es]
      have eF : updF F (ahead * 12 + k) s (ahead * 12 + k) = s := if_pos rfl
      rw [eF]
      have ev : ∀ i j, j < 12 → WF (updF (updF F (ahead * 12 + k) s) (k * 12 + ahead) s) i j = if (i = k ∧ j = ahead) ∨ (i = ahead ∧ j = k) then s else WF F i j := fun i j hj => by
        rw [WF_upd ha hj, WF_upd hk12 hj]
        by_cases q1 : i = k ∧ j = ahead
        · rw [if_pos q1, if_pos (.inl q1)]
        · rw [if_neg q1]
          by_cases q2 : i = ahead ∧ j = k
          · rw [if_pos q2, if_pos (.inr q2)]
          · rw [if_neg q2, if_neg (fun z => z.elim q1 q2)]
      refine ⟨_, rfl, ?_, fun i j hi hj => ?_, fun k' ⟨i, hi, ei⟩ h1 h2 => ?_, fun k' hk' hno => ?_, fun i j hi hj h1 h2 => ?_, fun j hj => ?_⟩
      · dsimp only; rw [eL, if_pos hkl]
      · dsimp only; rw [ev i j hj]
        split
        · omega
        · exact i2 i j hi hj
      · dsimp only
        have hk'12 : k' < 12 := by
          have := hr _ (mem_getD (d := (0 : Int)) (show i < l.length by omega))
          omega
        rw [ev ahead k' hk'12, ev k' ahead ha]
        by_cases q : k' = k
        · subst q
          rw [if_pos (.inr ⟨rfl, rfl⟩), if_pos (.inl ⟨rfl, rfl⟩)]
          exact ⟨es, es⟩
        · rw [if_neg (by omega), if_neg (by omega)]
          refine i3 k' ⟨i, ?_, ei⟩ h1 h2
          refine Classical.byContradiction fun z => q ?_
          have : i = m := by omega
          subst this
          rw [ek] at ei; omega
      · dsimp only
        have q : k' ≠ k := fun z => hno ⟨m, by omega, by rw [ek, z]⟩
        rw [ev ahead k' hk', if_neg (by omega)]
        exact i4 k' hk' fun ⟨i, hi, ei⟩ => hno ⟨i, by omega, ei⟩
      · dsimp only
        rw [ev i j hj, if_neg (by omega)]
        exact i5 i j hi hj h1 h2
      · dsimp only
        rw [ev last j hj, if_neg (by omega)]
        exact i6 j hj
    · rw [if_neg c]
      refine ⟨(F, L), rfl, ?_, i2, fun k' ⟨i, hi, ei⟩ h1 h2 => ?_, fun k' hk' hno => i4 k' hk' fun ⟨i, hi, ei⟩ => hno ⟨i, by omega, ei⟩, i5, i6⟩
      · rw [eL, if_neg (by omega), List.append_nil]
      · by_cases q : i = m
        · subst q; rw [ek] at ei; omega
        · exact i3 k' ⟨i, by omega, ei⟩ h1 h2
  dsimp only at i1 i2 i3 i4 i5 i6
  refine ⟨f', l', e, by rw [i1, Nat.zero_add, List.take_of_length_le (Nat.le_refl _)], i2, fun k hk => i3 k (by rw [Nat.zero_add]; exact getD_of_mem hk), i5⟩
/-- the groups, when the last one is merged with the one ahead -/
theorem Grp.merge {g : Graph} (hn12 : g.n ≤ 12) {f f' : Nat → Int} {l : List Int} {π : Nat → Nat} (hG : Grp g f l π) {last ahead : Nat} (hl : (last : Int) ∈ l) (ha : (ahead : Int) ∈ l) (hne : last ≠ ahead)
    (h2 : ∀ i j, i < 12 → j < 12 → 0 ≤ WF f' i j ∧ WF f' i j ≤ 2 * ((600000 * 2 ^ (12 - l.length) : Nat) : Int))
    (h3 : ∀ k : Nat, (k : Int) ∈ l → k ≠ last → k ≠ ahead → WF f' ahead k = WF f ahead k + WF f last k ∧ WF f' k ahead = WF f ahead k + WF f last k) (h4 : ∀ i j, i < 12 → j < 12 → i ≠ ahead → j ≠ ahead → WF f' i j = WF f i j) :
    Grp g (updF f' (ahead * 12 + ahead) 0) (l.filter (fun x => decide (x ≠ (last : Int)))) (mergeP π last ahead) ∧ (l.filter (fun x => decide (x ≠ (last : Int)))).length + 1 = l.length := by
  have rl := hG.rng _ hl
  have ra := hG.rng _ ha
  have r12 : ∀ x, x ∈ l → 0 ≤ x ∧ x < 12 := fun x hx => by have := hG.rng x hx; omega
  have hnd : (l.filter (fun x => decide (x ≠ (last : Int)))).Nodup := hG.nd.filter _
  have mem : ∀ x : Nat, (x : Int) ∈ l.filter (fun x => decide (x ≠ (last : Int))) ↔ (x : Int) ∈ l ∧ x ≠ last := fun x => by
    rw [List.mem_filter, decide_eq_true_eq]
    exact ⟨fun z => ⟨z.1, fun w => z.2 (by rw [w])⟩, fun z => ⟨z.1, fun w => z.2 (by omega)⟩⟩
  have hlen : (l.filter (fun x => decide (x ≠ (last : Int)))).length + 1 = l.length := by
    rw [← cnt_inL hnd (fun x hx => r12 x (List.mem_filter.1 hx).1), ← cnt_inL hG.nd r12]
    refine cnt_one_more (u := last) (by omega) (decide_eq_true hl) (decide_eq_false (fun z => ((mem last).1 z).2 rfl)) fun x hx hxl => ?_
    unfold inL
    rw [decide_eq_decide, mem x]
    exact ⟨fun z => z.1, fun z => ⟨z, hxl⟩⟩
  refine ⟨⟨hnd, fun x hx => hG.rng x (List.mem_filter.1 hx).1, fun u hu => ?_, fun x hx => ?_, fun i j hi hj hij => ?_, fun i j hi hj => ?_⟩, hlen⟩
  · rw [mem]
    unfold mergeP
    by_cases c : π u = last
    · rw [if_pos c]; exact ⟨ha, fun z => hne z.symm⟩
    · rw [if_neg c]; exact ⟨hG.hit u hu, c⟩
  · obtain ⟨x1, x2⟩ := (mem x).1 hx
    unfold mergeP
    rw [hG.fix x x1, if_neg x2]
  · obtain ⟨i1, i2⟩ := (mem i).1 hi
    obtain ⟨j1, j2⟩ := (mem j).1 hj
    have ri := r12 _ i1
    have rj := r12 _ j1
    have ev : WF (updF f' (ahead * 12 + ahead) 0) i j = WF f' i j := by
      show (if i * 12 + j = ahead * 12 + ahead then 0 else f' (i * 12 + j)) = _
      rw [if_neg (by rw [flat_inj (by omega) (by omega)]; omega)]
    rw [ev]
    by_cases c1 : i = ahead
    · subst c1
      rw [wt_merge j2 (fun z => hij z.symm) hne, (h3 j j1 j2 (fun z => hij z.symm)).1, hG.w i j i1 j1 hij, hG.w last j hl j1 (fun z => j2 z.symm)]
    · by_cases c2 : j = ahead
      · subst c2
        rw [wt_sym, wt_merge i2 c1 hne, (h3 i i1 i2 c1).2, hG.w j i j1 i1 (fun z => hij z.symm), hG.w last i hl i1 (fun z => i2 z.symm)]
      · rw [wt_keep i2 c1 j2 c2, h4 i j (by omega) (by omega) c1 c2]
        exact hG.w i j i1 j1 hij
  · have b := h2 i j hi hj
    have hp : (600000 * 2 ^ (12 - (l.filter (fun x => decide (x ≠ (last : Int)))).length) : Nat) = 2 * (600000 * 2 ^ (12 - l.length)) := by
      have : l.length ≤ 12 := by rw [← cnt_inL hG.nd r12]; exact cnt_le _ 12
      rw [show 12 - (l.filter (fun x => decide (x ≠ (last : Int)))).length = 12 - l.length + 1 by omega, Nat.pow_succ]; omega
    rw [hp]
    show 0 ≤ (if i * 12 + j = ahead * 12 + ahead then 0 else f' (i * 12 + j)) ∧ (if i * 12 + j = ahead * 12 + ahead then 0 else f' (i * 12 + j)) ≤ _
    have e : f' (i * 12 + j) = WF f' i j := rfl
    split <;> omega
/-! ### Of -/
theorem overG_nonneg {g : Graph} (h : OkP g) (X : Nat → Bool) : 0 ≤ overG g X := by
  have : lsA (fun _ => 0) g.as ≤ overG g X := lsA_le fun a ha => by
    have := (h.ok.arc a ha).c0
    unfold across; split <;> omega
  have z : ∀ l : List Arc, lsA (fun _ => 0) l = 0 := fun l => by
    induction l with
    | nil => rfl
    | cons a l ih => rw [lsA, ih]; rfl
  rw [z] at this; exact this
structure Best (g : Graph) (π : Nat → Nat) (v : Int) : Prop where
  has : v < 0 ∨ ∃ X, Proper g.n.toNat X ∧ overG g X ≤ v
  best : ∀ X, Proper g.n.toNat X → (∀ u, u < g.n.toNat → X (π u) = X u) ∨ (0 ≤ v ∧ v ≤ overG g X)
theorem first_table {g : Graph} (h : OkP g) : ∃ f, forN (least_Of_B1 g) g.as.length 0 (fun _ => (0 : Int)) = some f ∧ (∀ i j, i < 12 → j < 12 → i ≠ j → WF f i j = wt g id i j) ∧ ∀ i j, i < 12 → j < 12 → 0 ≤ WF f i j ∧ WF f i j ≤ 600000 := by
  have n12 := h.ok.n1
  have hlen := h.len
  obtain ⟨f, e, h1, h2⟩ := forN_inv (f := least_Of_B1 g) (fun k f => (∀ i j, i < 12 → j < 12 → i ≠ j → WF f i j = lsA (arcW id i j) (g.as.take k)) ∧ ∀ i j, i < 12 → j < 12 → 0 ≤ WF f i j ∧ WF f i j ≤ 10000 * (k : Int)) (n := g.as.length) (k := 0) (s := fun _ => 0) ⟨fun i j _ _ _ => rfl, fun i j _ _ => by simp⟩ fun k f _ hk ⟨i1, i2⟩ => by
    have hk' : k < g.as.length := by omega
    have G := h.ok.arc _ (mem_getD (d := (El.d : Arc)) hk')
    have f0 := G.f0; have f1 := G.f1; have t0 := G.t0; have t1 := G.t1; have c0 := G.c0; have c1 := G.c1
    have split' : ∀ i j, lsA (arcW id i j) (g.as.take (k + 1)) = lsA (arcW id i j) (g.as.take k) + arcW id i j (g.as.getD k El.d) := fun i j => by
      rw [take_succ_getD hk', lsA_append]
      show _ + (arcW id i j (g.as.getD k El.d) + 0) = _
      omega
    obtain ⟨x, ex⟩ : ∃ x : Nat, (g.as.getD k El.d).f = (x : Int) := ⟨(g.as.getD k El.d).f.toNat, by omega⟩
    obtain ⟨y, ey⟩ : ∃ y : Nat, (g.as.getD k El.d).t = (y : Int) := ⟨(g.as.getD k El.d).t.toNat, by omega⟩
    have hx : x < 12 := by omega
    have hy : y < 12 := by omega
    unfold least_Of_B1
    rw [ex, ey]
    by_cases c : (x : Int) ≠ (y : Int)
    · have hne : x ≠ y := by omega
      have b1 := i2 x y hx hy
      have b2 := i2 y x hy hx
      obtain ⟨cc, ecc⟩ : ∃ cc, cc = (g.as.getD k El.d).c := ⟨_, rfl⟩
      rw [← ecc] at c0 c1 ⊢
      have e2 : updF f (x * 12 + y) (f (x * 12 + y) + cc) (y * 12 + x) = f (y * 12 + x) := if_neg (by rw [flat_inj hx hy]; omega)
      rw [if_pos c, ck_some ⟨by omega, by omega⟩, ck_some ⟨by omega, by omega⟩, Int.toNat_natCast, Int.toNat_natCast, ck_some (show InI (WF f x y + cc) by unfold InI; omega), e2, ck_some (show InI (WF f y x + cc) by unfold InI; omega)]
      have ev : ∀ i j, i < 12 → j < 12 → WF (updF (updF f (x * 12 + y) (f (x * 12 + y) + cc)) (y * 12 + x) (f (y * 12 + x) + cc)) i j = if (i = y ∧ j = x) ∨ (i = x ∧ j = y) then WF f i j + cc else WF f i j := fun i j hi hj => by
        rw [WF_upd hx hj, WF_upd hy hj]
        by_cases q1 : i = y ∧ j = x
        · rw [if_pos q1, if_pos (.inl q1), q1.1, q1.2]
        · rw [if_neg q1]
          by_cases q2 : i = x ∧ j = y
          · rw [if_pos q2, if_pos (.inr q2), q2.1, q2.2]
          · rw [if_neg q2, if_neg (fun z => z.elim q1 q2)]
      refine ⟨_, rfl, fun i j hi hj hij => ?_, fun i j hi hj => ?_⟩
      · rw [ev i j hi hj, split', ← i1 i j hi hj hij]
        unfold arcW
        rw [ex, ey, ← ecc]
        dsimp only [id]
        rw [Int.toNat_natCast, Int.toNat_natCast]
        by_cases q : (i = y ∧ j = x) ∨ (i = x ∧ j = y)
        · rw [if_pos q, if_pos (by omega)]
        · rw [if_neg q, if_neg (by omega), Int.add_zero]
      · rw [ev i j hi hj]
        have := i2 i j hi hj
        split <;> omega
    · rw [if_neg c]
      refine ⟨f, rfl, fun i j hi hj hij => ?_, fun i j hi hj => by have := i2 i j hi hj; omega⟩
      rw [split', ← i1 i j hi hj hij]
      unfold arcW
      rw [ex, ey]
      dsimp only [id]
      rw [Int.toNat_natCast, Int.toNat_natCast, if_neg (by omega), Int.add_zero]
  refine ⟨f, e, fun i j hi hj hij => ?_, fun i j hi hj => ?_⟩
  · rw [h1 i j hi hj hij, Nat.zero_add, List.take_of_length_le (Nat.le_refl _)]; rfl
  · have := h2 i j hi hj; omega
theorem stoer_ok {g : Graph} (h : OkP g) (h2 : 2 ≤ g.n) : ∃ s c, least_Of_F g = some (s, c, 0) ∧ 0 ≤ c ∧ (∃ X, Proper g.n.toNat X ∧ overG g X = c) ∧ ∀ X, Proper g.n.toNat X → c ≤ overG g X := by
  have n12 := h.ok.n1
  have hck : pairs_Check_F g = some 0 := by
    rcases pairsCheck_cases g with ⟨_, e⟩ | ⟨z, _⟩
    · exact e
    · exact absurd h z
  unfold least_Of_F
  rw [hck, bind_some', if_neg (by decide), if_neg (by omega)]
  obtain ⟨f, ef, f1, f2⟩ := first_table h
  rw [ef, bind_some', ck_some (by unfold InI; omega)]
  obtain ⟨⟨gr, l⟩, el, l1, l2, l3⟩ := forN_inv (f := least_Of_B2) (fun k σ => σ.2.Nodup ∧ (∀ x : Int, x ∈ σ.2 ↔ 0 ≤ x ∧ x < k) ∧ σ.2.length = k) (n := g.n.toNat) (k := 0) (s := ((fun _ => El.d), [])) ⟨List.nodup_nil, fun x => by constructor; (intro z; cases z); (intro z; omega), rfl⟩ fun k σ _ hk ⟨i1, i2, i3⟩ => by
    obtain ⟨gr, l⟩ := σ
    dsimp only at i1 i2 i3 ⊢
    unfold least_Of_B2
    dsimp only
    rw [ck_some (by omega), ck_some (by omega)]
    refine ⟨_, rfl, ?_, fun x => ?_, by simp [i3]⟩
    · dsimp only
      refine List.nodup_append.2 ⟨i1, by simp, fun a ha b hb => ?_⟩
      rw [List.mem_singleton.1 hb]
      have := (i2 a).1 ha
      omega
    · dsimp only
      rw [List.mem_append, i2, List.mem_singleton]
      omega
  rw [el, bind_some']
  dsimp only at l1 l2 l3 ⊢
  rw [Nat.zero_add] at l2 l3
  have G0 : Grp g f l id := ⟨l1, fun x hx => by have := (l2 x).1 hx; omega, fun u hu => (l2 _).2 (by show (0 : Int) ≤ (u : Int) ∧ (u : Int) < _; omega), fun x _ => rfl, fun i j hi hj hij => f1 i j (by have := (l2 _).1 hi; omega) (by have := (l2 _).1 hj; omega) hij, fun i j hi hj => by
    have := f2 i j hi hj
    have hp : 0 < 2 ^ (12 - l.length) := Nat.pow_pos (by decide)
    have : (600000 : Nat) ≤ 600000 * 2 ^ (12 - l.length) := Nat.le_mul_of_pos_right _ hp
    omega⟩
  obtain ⟨q, e, F, gr', L, s, c, hq, c0, cX, cB⟩ := loopC_or (f := least_Of_B3) (fun (σ : (Nat → Int) × (Nat → U16) × List Int × Int × Int) => ∃ π, Grp g σ.1 σ.2.2.1 π ∧ Best g π σ.2.2.2.2 ∧ 1 ≤ σ.2.2.1.length ∧ σ.2.2.1.length ≤ 12)
      (fun q => ∃ F gr L s c, q = .go (F, gr, L, s, c) ∧ 0 ≤ c ∧ (∃ X, Proper g.n.toNat X ∧ overG g X = c) ∧ ∀ X, Proper g.n.toNat X → c ≤ overG g X) (fun σ => σ.2.2.1.length) (fun σ ⟨π, hG, hB, hl1, hl2⟩ => by
    obtain ⟨F, gr, L, s, v⟩ := σ
    dsimp only at hG hB hl1 hl2 ⊢
    unfold least_Of_B3
    dsimp only
    have r12 : ∀ x, x ∈ L → 0 ≤ x ∧ x < 12 := fun x hx => by have := hG.rng x hx; omega
    by_cases c : 1 < ((L.length : Nat) : Int)
    · rw [if_pos c]
      have ps := pow_small L.length
      obtain ⟨last', ahead', cut, w, e1, hO⟩ := order_ok hG.nd r12 (by omega) hG.lo (by omega)
      obtain ⟨last, elast⟩ : ∃ last : Nat, last' = (last : Int) := ⟨_, hO.la⟩
      obtain ⟨ahead, eahead⟩ : ∃ ahead : Nat, ahead' = (ahead : Int) := ⟨_, hO.ah⟩
      subst elast eahead
      have wl : last = w (L.length - 1) := by have := hO.la; omega
      have wa : ahead = w (L.length - 2) := by have := hO.ah; omega
      have ml : (last : Int) ∈ L := by rw [wl]; exact hO.o.mem _ (by omega)
      have ma : (ahead : Int) ∈ L := by rw [wa]; exact hO.o.mem _ (by omega)
      have hne : last ≠ ahead := fun z => by
        have := hO.o.inj (L.length - 1) (L.length - 2) (by omega) (by omega) (by rw [← wl, ← wa, z])
        omega
      have rl := r12 _ ml
      have ra := r12 _ ma
      obtain ⟨p1, p2⟩ := phase h hG hO (by omega)
      have prop : Proper g.n.toNat (fun u => decide (π u = last)) := ⟨⟨last, by have := hG.rng _ ml; omega, decide_eq_true (hG.fix last ml)⟩, ahead, by have := hG.rng _ ma; omega, decide_eq_false (by rw [hG.fix ahead ma]; exact fun z => hne z.symm)⟩
      have cut0 : 0 ≤ cut := Int.le_trans (overG_nonneg h _) p1
      rw [e1, bind_some']
      dsimp only
      have pick : ∃ s' : Int, (if v < 0 then ck (0 ≤ (last : Int) ∧ (last : Int) < 12) (some ((gr (last : Int).toNat).v, cut)) else if cut < v then ck (0 ≤ (last : Int) ∧ (last : Int) < 12) (some ((gr (last : Int).toNat).v, cut)) else some (s, v)) = some (s', if v < 0 ∨ cut < v then cut else v) := by
        rw [ck_some (⟨by omega, by omega⟩ : 0 ≤ (last : Int) ∧ (last : Int) < 12)]
        by_cases q1 : v < 0
        · rw [if_pos q1, if_pos (.inl q1)]; exact ⟨_, rfl⟩
        · rw [if_neg q1]
          by_cases q2 : cut < v
          · rw [if_pos q2, if_pos (.inr q2)]; exact ⟨_, rfl⟩
          · rw [if_neg q2, if_neg (fun z => z.elim q1 q2)]; exact ⟨_, rfl⟩
      obtain ⟨s', es⟩ := pick
      obtain ⟨F', L', e2, eL', k2, k3, k4⟩ := merge_loop hG.nd r12 (f := F) (last := last) (ahead := ahead) (by omega) (by omega) hne hG.lo (by omega)
      rw [es, bind_some']
      dsimp only
      rw [ck_some ⟨by omega, by omega⟩, ck_some ⟨by omega, by omega⟩, e2, bind_some']
      dsimp only
      rw [Int.toNat_natCast, Int.toNat_natCast]
      obtain ⟨m1, m2⟩ := hG.merge n12 ml ma hne k2 k3 k4
      rw [← eL'] at m1 m2
      refine .inl ⟨_, rfl, ⟨mergeP π last ahead, m1, ⟨?_, fun X hX => ?_⟩, by dsimp only; omega, by dsimp only; omega⟩, by dsimp only; omega⟩
      · dsimp only
        by_cases q : v < 0 ∨ cut < v
        · rw [if_pos q]; exact .inr ⟨_, prop, p1⟩
        · rw [if_neg q]; exact hB.has
      · dsimp only
        rcases hB.best X hX with w1 | w1
        · by_cases q3 : X last = X ahead
          · left
            intro u hu
            unfold mergeP
            by_cases q4 : π u = last
            · rw [if_pos q4, ← q3, ← q4]; exact w1 u hu
            · rw [if_neg q4]; exact w1 u hu
          · right
            have := p2 X w1 q3
            split <;> omega
        · right
          split <;> omega
    · rw [if_neg c]
      have noresp : ∀ X, Proper g.n.toNat X → ¬ ∀ u, u < g.n.toNat → X (π u) = X u := fun X ⟨⟨u, hu, xu⟩, w, hw, xw⟩ hall => by
        have e1 := hall u hu
        have e2 := hall w hw
        have : π u = π w := by
          have m1 := hG.hit u hu
          have m2 := hG.hit w hw
          match L, hl1, c, m1, m2 with
          | [a], _, _, m1, m2 => have := List.mem_singleton.1 m1; have := List.mem_singleton.1 m2; omega
          | a :: b :: r, _, c, _, _ => exact absurd (by simp only [List.length_cons]; omega) c
        rw [this, e2, xw, xu] at e1
        cases e1
      have p0 : Proper g.n.toNat (fun u => decide (u = 0)) := ⟨⟨0, by omega, rfl⟩, 1, by omega, rfl⟩
      have v0 : 0 ≤ v := ((hB.best _ p0).resolve_left (noresp _ p0)).1
      have all : ∀ X, Proper g.n.toNat X → v ≤ overG g X := fun X hX => ((hB.best X hX).resolve_left (noresp X hX)).2
      obtain ⟨X, hX, eX⟩ := hB.has.resolve_left (by omega)
      exact .inr (.inl ⟨_, rfl, F, gr, L, s, v, rfl, v0, ⟨X, hX, by have := all X hX; omega⟩, all⟩)) (n := 1000000) (s := (f, gr, l, 0, -1)) ⟨id, G0, ⟨.inl (by show (-1 : Int) < 0; decide), fun X _ => .inl fun u _ => rfl⟩, by dsimp only; omega, by dsimp only; omega⟩ (by dsimp only; omega)
  subst hq
  rw [e, bind_some']
  dsimp only
  have fin : ∃ s', (if bitsOf .and .u16 s 1 = 1 then ck (0 ≤ g.n) (some (bitsOf .andNot .u16 (IntKind.u16.wrap ((IntKind.u16.wrap (1 * 2 ^ min g.n.toNat 16)) - 1)) s)) else some s) = some s' := by
    rw [ck_some (show 0 ≤ g.n by omega)]
    split
    · exact ⟨_, rfl⟩
    · exact ⟨_, rfl⟩
  obtain ⟨s', es⟩ := fin
  rw [es, bind_some']
  exact ⟨s', c, rfl, c0, cX, cB⟩
theorem stoer_bad {g : Graph} (h : ¬ (OkP g ∧ 2 ≤ g.n)) : ∃ e, e ≠ 0 ∧ least_Of_F g = some (0, 0, e) := by
  unfold least_Of_F
  rcases pairsCheck_cases g with ⟨z, e⟩ | ⟨_, e, he, e1⟩
  · have : g.n < 2 := Classical.byContradiction fun w => h ⟨z, by omega⟩
    rw [e, bind_some', if_neg (by decide), if_pos this]
    exact ⟨5, by decide, rfl⟩
  · rw [e1, bind_some', if_pos he]
    exact ⟨e, he, rfl⟩
end Go.Proofs.Ytdpkdicciclobaa
