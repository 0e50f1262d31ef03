/- PairsFew: the law's function answers true. -/
import Derived.Test.YtkpdkigkhbkfiaaPgomory
import Derived.Test.YtkpdkigkhbkfiaaPpairs
import Derived.Test.YtkpdkigkhbkfiaaPcompact
import Derived.Test.YtkpdkigkhbkfiaaPsortI
import Derived.Test.YtkpdkigkhbkfiaaKPairsFew
namespace Go.Proofs.Ytkpdkigkhbkfiaa
open Go Go.Proofs.Ytkpdkigkhbkfiaa.Sx
set_option linter.unusedVariables false
set_option linter.unusedSimpArgs false
theorem partedF_eq : weirkeep_parted_F = some true := by kernel_rfl
/-! ### what parts two, as a law of sets -/
def indS (X : Nat → Bool) (x : Int) : Int := if X x.toNat = true then 1 else 0
theorem indS01 (X : Nat → Bool) (x : Int) : indS X x = 0 ∨ indS X x = 1 := by unfold indS; split <;> omega
theorem indS_eq {S : Int → Int} (hb : ∀ x, S x = 0 ∨ S x = 1) {x : Int} (hx : 0 ≤ x) : indS (fun x => decide (S (x : Int) = 1)) x = S x := by
  have e : ((x.toNat : Nat) : Int) = x := by omega
  show (if decide (S ((x.toNat : Nat) : Int) = 1) = true then (1 : Int) else 0) = S x
  rw [e]
  rcases hb x with q | q <;> rw [q] <;> simp
def overG (g : Graph) (X : Nat → Bool) : Int := lsA (across (indS X)) g.as
theorem lsA_congr {f h : Arc → Int} : ∀ {l : List Arc}, (∀ a, a ∈ l → f a = h a) → lsA f l = lsA h l
  | [], _ => rfl
  | a :: l, e => by rw [lsA, lsA, e a (by simp), lsA_congr fun b hb => e b (by simp [hb])]
theorem lsA_le4 {f1 f2 f3 f4 : Arc → Int} : ∀ {l : List Arc}, (∀ a, a ∈ l → f1 a + f2 a ≤ f3 a + f4 a) → lsA f1 l + lsA f2 l ≤ lsA f3 l + lsA f4 l
  | [], _ => Int.le_refl _
  | a :: l, e => by
    have h1 := e a (by simp)
    have h2 := lsA_le4 (l := l) fun b hb => e b (by simp [hb])
    simp only [lsA]; omega
theorem across_term (x y z w : Bool) {c : Int} (hc : 0 ≤ c) : (if (if (x && !z) = true then (1 : Int) else 0) = (if (y && !w) = true then 1 else 0) then 0 else c) + (if (if (z && !x) = true then (1 : Int) else 0) = (if (w && !y) = true then 1 else 0) then 0 else c) ≤
    (if (if x = true then (1 : Int) else 0) = (if y = true then 1 else 0) then 0 else c) + (if (if z = true then (1 : Int) else 0) = (if w = true then 1 else 0) then 0 else c) := by
  cases x <;> cases y <;> cases z <;> cases w <;> simp <;> omega
theorem across_posi {X Z : Nat → Bool} {a : Arc} (hc : 0 ≤ a.c) : across (indS fun x => X x && !Z x) a + across (indS fun x => Z x && !X x) a ≤ across (indS X) a + across (indS Z) a :=
  across_term (X a.f.toNat) (X a.t.toNat) (Z a.f.toNat) (Z a.t.toNat) hc
def lamF (g : Graph) (s t : Nat) : Int := match pairs_Part_F g (s : Int) (t : Int) with | some (v, _) => v | none => 0
theorem lam_max {g : Graph} (h : OkP g) {s t : Nat} (hs : s < g.n.toNat) (ht : t < g.n.toNat) (hne : s ≠ t) : pairs_Part_F g (s : Int) (t : Int) = some (lamF g s t, 0) ∧ MaxV (bothN g (s : Int) (t : Int)) (lamF g s t) := by
  obtain ⟨v, e, hM⟩ := part_ok h (bothN_ok h (s := (s : Int)) (t := (t : Int)) (by omega) (by omega) (by omega) (by omega) (by omega))
  have : lamF g s t = v := by unfold lamF; rw [e]
  rw [this]; exact ⟨e, hM⟩
theorem lam_same (g : Graph) (s : Nat) : lamF g s s = lamF g s s := rfl
theorem cuts_ok {g : Graph} (h : OkP g) : Cuts g.n.toNat (overG g) (fun s t => if s = t then 0 else lamF g s t) := by
  have c0 : ∀ a, a ∈ g.as → 0 ≤ a.c := fun a ha => (h.ok.arc a ha).c0
  refine ⟨fun X s t hs ht x1 x2 => ?_, fun s t hs ht hne => ?_, fun s t hs ht => ?_, fun X Z => lsA_le4 fun a ha => across_posi (c0 a ha)⟩
  · have hne : s ≠ t := fun z => by rw [z, x2] at x1; cases x1
    rw [if_neg hne]
    have hc : Cut (bothN g (s : Int) (t : Int)) (indS X) := ⟨by show indS X (s : Int) = 1; unfold indS; rw [Int.toNat_natCast, if_pos x1], by show indS X (t : Int) = 0; unfold indS; rw [Int.toNat_natCast, if_neg (by rw [x2]; decide)], indS01 X⟩
    have := (lam_max h hs ht hne).2.ge hc
    have e : capS (bothN g (s : Int) (t : Int)).as (indS X) = overG g X := cap_both g.as (indS01 X)
    omega
  · rw [if_neg hne]
    obtain ⟨S, hS, e⟩ := (lam_max h hs ht hne).2.cut
    have hs' : S (s : Int) = 1 := hS.s
    have ht' : S (t : Int) = 0 := hS.t
    refine ⟨fun x => decide (S (x : Int) = 1), decide_eq_true hs', decide_eq_false (by omega), ?_⟩
    rw [← e]
    have e2 : capS (bothN g (s : Int) (t : Int)).as S = lsA (across S) g.as := cap_both g.as hS.b
    rw [e2]
    refine lsA_congr fun a ha => ?_
    have G := h.ok.arc a ha
    have eq : ∀ x : Int, 0 ≤ x → indS (fun x => decide (S (x : Int) = 1)) x = S x := fun x hx => indS_eq hS.b hx
    unfold across
    rw [eq _ G.f0, eq _ G.t0]
  · by_cases q : s = t
    · subst q; rfl
    · rw [if_neg q, if_neg (fun z => q z.symm)]
      have a := (lam_max h hs ht q).2
      have b := (lam_max h ht hs (fun z => q z.symm)).2
      have o1 := bothN_ok h (s := (s : Int)) (t := (t : Int)) (by omega) (by omega) (by omega) (by omega) (by omega)
      have := max_swap o1 a b
      have := max_swap (okN_swap o1) b a
      omega
/-! ### the tree -/
theorem hang_congr {X Y : Nat → Nat → Bool} : ∀ {a : Nat}, (∀ b, b < a → X b = Y b) → ∀ k, hang X a k = hang Y a k
  | 0, _, _ => rfl
  | a + 1, h, k => by rw [hang, hang, hang_congr (a := a) (fun b hb => h b (by omega)) k, hang_congr (a := a) (fun b hb => h b (by omega)) a, h a (by omega)]
def lamG (g : Graph) (s t : Nat) : Int := if s = t then 0 else lamF g s t
structure TreeD (g : Graph) (X : Nat → Nat → Bool) (m : Nat) (up w : List Int) : Prop where
  l0 : up.length = g.n.toNat
  l1 : w.length = g.n.toNat
  up : ∀ k, k < g.n.toNat → up.getD k 0 = (hang X m k : Int)
  cut : ∀ a, 0 < a → a < m → X a a = true ∧ X a (hang X a a) = false ∧ overG g (X a) = lamG g a (hang X a a) ∧ w.getD a 0 = lamG g a (hang X a a)
theorem tree_inner {g : Graph} (hn : g.n ≤ 12) (hn0 : 1 ≤ g.n) {s : Nat} (hs : s < g.n.toNat) (side : Int) {l : List Int} (hl : l.length = g.n.toNat) :
    ∃ l', loopC (pairs_Tree_B2 g s side) 1000000 (l, s + 1) = some (.go (l', g.n.toNat)) ∧ l'.length = g.n.toNat ∧ ∀ i, i < g.n.toNat → l'.getD i 0 = if s < i ∧ bit side (i : Int) = 1 ∧ l.getD i 0 = l.getD s 0 then (s : Int) else l.getD i 0 := by
  obtain ⟨q, e, l', hq, h1, h2⟩ := loopC_or (f := pairs_Tree_B2 g s side) (fun (σ : List Int × Nat) => s < σ.2 ∧ σ.2 ≤ g.n.toNat ∧ σ.1.length = g.n.toNat ∧ ∀ i, i < g.n.toNat → σ.1.getD i 0 = if s < i ∧ i < σ.2 ∧ bit side (i : Int) = 1 ∧ l.getD i 0 = l.getD s 0 then (s : Int) else l.getD i 0)
      (fun q => ∃ l', q = .go (l', g.n.toNat) ∧ l'.length = g.n.toNat ∧ ∀ i, i < g.n.toNat → l'.getD i 0 = if s < i ∧ bit side (i : Int) = 1 ∧ l.getD i 0 = l.getD s 0 then (s : Int) else l.getD i 0) (fun σ => g.n.toNat - σ.2) (fun σ ⟨i1, i2, i3, i4⟩ => by
    obtain ⟨m, k⟩ := σ
    dsimp only at i1 i2 i3 i4 ⊢
    unfold pairs_Tree_B2
    dsimp only
    by_cases c : ((k : Nat) : Int) < g.n
    · have hk : k < g.n.toNat := by omega
      have e1 := i4 k hk
      rw [if_neg (by omega)] at e1
      have e2 := i4 s hs
      rw [if_neg (by omega)] at e2
      have eb : bitsOf .and .u16 (Int.fdiv side (2 ^ min k 16)) 1 = bit side (k : Int) := by unfold bit; rw [Int.toNat_natCast]
      rw [if_pos c, eb]
      by_cases c1 : bit side (k : Int) = 1
      · rw [if_pos c1, ck_some (by omega), ck_some (by omega)]
        by_cases c2 : m.getD k 0 = m.getD s 0
        · rw [if_pos c2, ck_some (by unfold InI; omega)]
          refine .inl ⟨_, rfl, ⟨by dsimp only; omega, by dsimp only; omega, by simpa using i3, fun i hi => ?_⟩, by dsimp only; omega⟩
          dsimp only
          rw [getD_set']
          by_cases z : i = k
          · subst z
            rw [if_pos ⟨rfl, by omega⟩, if_pos ⟨i1, by omega, c1, by rw [← e1, ← e2]; exact c2⟩]
          · rw [if_neg (fun w => z w.1), i4 i hi]
            by_cases z2 : s < i ∧ i < k ∧ bit side (i : Int) = 1 ∧ l.getD i 0 = l.getD s 0
            · rw [if_pos z2, if_pos ⟨z2.1, by omega, z2.2.2⟩]
            · rw [if_neg z2, if_neg (fun w => z2 ⟨w.1, by omega, w.2.2⟩)]
        · rw [if_neg c2, ck_some (by unfold InI; omega)]
          refine .inl ⟨_, rfl, ⟨by dsimp only; omega, by dsimp only; omega, i3, fun i hi => ?_⟩, by dsimp only; omega⟩
          dsimp only
          rw [i4 i hi]
          by_cases z : i = k
          · subst z
            rw [if_neg (by omega), if_neg (fun w => c2 (by rw [e1, e2]; exact w.2.2.2))]
          · by_cases z2 : s < i ∧ i < k ∧ bit side (i : Int) = 1 ∧ l.getD i 0 = l.getD s 0
            · rw [if_pos z2, if_pos ⟨z2.1, by omega, z2.2.2⟩]
            · rw [if_neg z2, if_neg (fun w => z2 ⟨w.1, by omega, w.2.2⟩)]
      · rw [if_neg c1, ck_some (by unfold InI; omega)]
        refine .inl ⟨_, rfl, ⟨by dsimp only; omega, by dsimp only; omega, i3, fun i hi => ?_⟩, by dsimp only; omega⟩
        dsimp only
        rw [i4 i hi]
        by_cases z : i = k
        · subst z
          rw [if_neg (by omega), if_neg (fun w => c1 w.2.2.1)]
        · by_cases z2 : s < i ∧ i < k ∧ bit side (i : Int) = 1 ∧ l.getD i 0 = l.getD s 0
          · rw [if_pos z2, if_pos ⟨z2.1, by omega, z2.2.2⟩]
          · rw [if_neg z2, if_neg (fun w => z2 ⟨w.1, by omega, w.2.2⟩)]
    · rw [if_neg c]
      have : k = g.n.toNat := by omega
      subst this
      refine .inr (.inl ⟨_, rfl, m, rfl, i3, fun i hi => ?_⟩)
      rw [i4 i hi]
      by_cases z2 : s < i ∧ bit side (i : Int) = 1 ∧ l.getD i 0 = l.getD s 0
      · rw [if_pos z2, if_pos ⟨z2.1, hi, z2.2⟩]
      · rw [if_neg z2, if_neg (fun w => z2 ⟨w.1, w.2.2⟩)]) (n := 1000000) (s := (l, s + 1)) ⟨by dsimp only; omega, by dsimp only; omega, hl, fun i hi => by dsimp only; rw [if_neg (by omega)]⟩ (by dsimp only; omega)
  subst hq
  exact ⟨l', e, h1, h2⟩
theorem tree_ok {g : Graph} (h : OkP g) : ∃ up w X, pairs_Tree_F g = some (up, w, 0) ∧ TreeD g X g.n.toNat up w := by
  have hn0 := h.ok.n0; have hn := h.ok.n1
  have hck : pairs_Check_F g = some 0 := by
    rcases pairsCheck_cases g with ⟨_, e⟩ | ⟨z, _⟩
    · exact e
    · exact absurd h z
  unfold pairs_Tree_F
  rw [hck, bind_some', if_neg (by decide), ck_some ⟨by omega, by omega⟩]
  obtain ⟨q, e, up, w, X, hq, hT⟩ := loopC_or (f := pairs_Tree_B1 g) (fun (σ : List Int × List Int × Nat) => 1 ≤ σ.2.2 ∧ σ.2.2 ≤ g.n.toNat ∧ ∃ X, TreeD g X σ.2.2 σ.1 σ.2.1)
      (fun q => ∃ up w X, q = .go (up, w, g.n.toNat) ∧ TreeD g X g.n.toNat up w) (fun σ => g.n.toNat - σ.2.2) (fun σ ⟨i1, i2, X, hT⟩ => by
    obtain ⟨up, w, s⟩ := σ
    dsimp only at i1 i2 hT ⊢
    unfold pairs_Tree_B1
    dsimp only
    by_cases c : ((s : Nat) : Int) < g.n
    · have hs : s < g.n.toNat := by omega
      have hu := hang_lt X s s (by omega)
      rw [if_pos c, ck_some (by rw [hT.l0]; omega), hT.up s hs]
      obtain ⟨t, et⟩ : ∃ t, t = hang X s s := ⟨_, rfl⟩
      rw [← et] at hu ⊢
      rw [bothN_eq (by have := h.len; omega), bind_some']
      have hok := bothN_ok h (s := (s : Int)) (t := (t : Int)) (by omega) (by omega) (by omega) (by omega) (by omega)
      obtain ⟨low, v, el, hL, hM⟩ := least_ok hok
      have ev : v = lamG g s t := by
        unfold lamG
        rw [if_neg (by omega)]
        exact hM.uniq (lam_max h hs (by omega) (by omega)).2
      rw [el, bind_some']
      dsimp only
      rw [ck_some (by rw [hT.l1]; omega), ck_some (by unfold InI; omega)]
      obtain ⟨l', e2, k1, k2⟩ := tree_inner hn hn0 hs low hT.l0
      rw [e2, bind_some']
      refine .inl ⟨_, rfl, ⟨by dsimp only; omega, by dsimp only; omega, fun a => if a = s then (fun x => decide (bit low (x : Int) = 1)) else X a, ?_⟩, by dsimp only; omega⟩
      dsimp only
      have hg : ∀ a, a ≤ s → ∀ k, hang (fun a => if a = s then (fun (x : Nat) => decide (bit low (x : Int) = 1)) else X a) a k = hang X a k := fun a ha k => hang_congr (fun b hb => if_neg (by omega)) k
      have bs : bit low (s : Int) = 1 := hL.side.s
      have bt : bit low (t : Int) = 0 := hL.side.t
      refine ⟨k1, by simpa using hT.l1, fun k hk => ?_, fun a ha has => ?_⟩
      · rw [k2 k hk, hT.up k hk, hT.up s hs, hang, hg s (Nat.le_refl _), hg s (Nat.le_refl _), if_pos rfl]
        by_cases z : s < k ∧ bit low (k : Int) = 1 ∧ hang X s k = hang X s s
        · rw [if_pos ⟨z.1, z.2.1, by omega⟩, if_pos ⟨by omega, z.1, decide_eq_true z.2.1, z.2.2⟩]
        · rw [if_neg (fun w => z ⟨w.1, w.2.1, by omega⟩), if_neg (fun w => z ⟨w.2.1, of_decide_eq_true w.2.2.1, w.2.2.2⟩)]
      · rw [hg a (by omega)]
        by_cases z : a = s
        · subst z
          rw [if_pos rfl, ← et]
          refine ⟨decide_eq_true bs, decide_eq_false (by omega), ?_, ?_⟩
          · rw [← ev, ← hL.cap]
            have e3 : capS (bothN g (a : Int) (t : Int)).as (bit low) = lsA (across (bit low)) g.as := cap_both g.as (bit01 low)
            rw [e3]
            refine lsA_congr fun b hb => ?_
            have G := h.ok.arc b hb
            have eq : ∀ x : Int, 0 ≤ x → indS (fun x => decide (bit low (x : Int) = 1)) x = bit low x := fun x hx => indS_eq (bit01 low) hx
            unfold across
            rw [eq _ G.f0, eq _ G.t0]
          · rw [getD_set', if_pos ⟨rfl, by rw [hT.l1]; omega⟩, ev]
        · rw [if_neg z, getD_set', if_neg (fun w => z w.1)]
          exact hT.cut a ha (by omega)
    · rw [if_neg c]
      have : s = g.n.toNat := by omega
      subst this
      exact .inr (.inl ⟨_, rfl, up, w, X, rfl, hT⟩)) (n := 1000000) (s := (List.replicate g.n.toNat 0, List.replicate g.n.toNat 0, 1)) ⟨by dsimp only; omega, by dsimp only; omega, fun _ _ => false, by simp, by simp, fun k hk => by rw [getD_replicate', if_pos hk]; rfl, fun a ha h1 => by dsimp only at h1; omega⟩ (by dsimp only; omega)
  subst hq
  rw [e]
  exact ⟨up, w, X, rfl, hT⟩
section
variable {g : Graph} {X : Nat → Nat → Bool} {up w : List Int}
theorem TreeD.hX (hT : TreeD g X g.n.toNat up w) : ∀ a, 0 < a → a < g.n.toNat → X a a = true ∧ X a (hang X a a) = false ∧ overG g (X a) = (fun s t => if s = t then 0 else lamF g s t) a (hang X a a) := fun a h0 h1 => by
  obtain ⟨a1, a2, a3, _⟩ := hT.cut a h0 h1
  exact ⟨a1, a2, a3⟩
theorem TreeD.up_eq (hT : TreeD g X g.n.toNat up w) {k : Nat} (hk : k < g.n.toNat) : up.getD k 0 = (hang X k k : Int) := by
  rw [hT.up k hk]
  have := hang_stays X (k := k) (g.n.toNat - k)
  rw [show k + (g.n.toNat - k) = g.n.toNat by omega] at this
  rw [this]
/-- one step up the tree -/
theorem TreeD.step (h : OkP g) (hT : TreeD g X g.n.toNat up w) {s j : Nat} (hs : s < g.n.toNat) (hj : j < s) : lamG g s j = if hang X s s = j then w.getD s 0 else min (w.getD s 0) (lamG g (hang X s s) j) := by
  have hw := (hT.cut s (by omega) hs).2.2.2
  by_cases c : hang X s s = j
  · rw [if_pos c, hw, c]
  · rw [if_neg c, hw]
    exact gus_step (cuts_ok h) hT.hX hs (by omega) hj c
theorem lamG_sym (h : OkP g) {s t : Nat} (hs : s < g.n.toNat) (ht : t < g.n.toNat) : lamG g s t = lamG g t s := (cuts_ok h).sym s t hs ht
theorem on_ok (h : OkP g) (hT : TreeD g X g.n.toNat up w) {s t : Nat} (hs : s < g.n.toNat) (ht : t < g.n.toNat) (hne : s ≠ t) : pairs_On_F up w (s : Int) (t : Int) = some (lamG g s t, 0) ∧ ∃ a, 0 < a ∧ a < g.n.toNat ∧ lamG g s t = w.getD a 0 := by
  have hn0 := h.ok.n0; have hn := h.ok.n1
  have l0 := hT.l0; have l1 := hT.l1
  unfold pairs_On_F
  rw [if_neg (by omega), if_neg (by omega), if_neg (by omega)]
  have e1 : forC (pairs_On_B1 up) up.length 0 () = some (.go ()) := forC_all fun k _ hk => by
    have hk' : k < g.n.toNat := by omega
    have hu := hT.up_eq hk'
    unfold pairs_On_B1
    by_cases c : 0 < ((k : Nat) : Int)
    · have := hang_lt X k k (by omega)
      rw [if_pos c, if_neg (by omega), if_neg (by omega), if_neg (by omega)]
    · have : k = 0 := by omega
      subst this
      rw [if_neg c, if_pos (show ((0 : Nat) : Int) = 0 from rfl), if_neg (by rw [hu]; simp [hang])]
  rw [e1, bind_some']
  dsimp only
  rw [if_neg (by omega), if_neg (by omega), if_neg (by omega), if_neg (by omega), if_neg (by omega)]
  obtain ⟨q, e, x, y, m, b, hq, hm, a, ha⟩ := loopC_or (f := pairs_On_B2 up w) (fun (σ : Int × Int × Int × Bool) => ∃ p q : Nat, σ.1 = (p : Int) ∧ σ.2.1 = (q : Int) ∧ p < g.n.toNat ∧ q < g.n.toNat ∧ (σ.2.2.2 = true → ∃ a, 0 < a ∧ a < g.n.toNat ∧ σ.2.2.1 = w.getD a 0) ∧
      (p = q → σ.2.2.2 = true ∧ σ.2.2.1 = lamG g s t) ∧ (p ≠ q → lamG g s t = if σ.2.2.2 = true then min σ.2.2.1 (lamG g p q) else lamG g p q)) (fun r => ∃ x y m b, r = .go (x, y, m, b) ∧ m = lamG g s t ∧ ∃ a, 0 < a ∧ a < g.n.toNat ∧ m = w.getD a 0) (fun σ => σ.1.toNat + σ.2.1.toNat) (fun σ ⟨p, q, ep, eq, hp, hq, i1, i2, i3⟩ => by
    obtain ⟨x, y, m, b⟩ := σ
    dsimp only at ep eq i1 i2 i3 ⊢
    subst ep eq
    unfold pairs_On_B2
    dsimp only
    by_cases c : (p : Int) ≠ (q : Int)
    · rw [if_pos c]
      -- the higher one, the lower one
      have hl : ∃ hi lo : Nat, (if (p : Int) < (q : Int) then some ((q : Int), (p : Int)) else some ((p : Int), (q : Int))) = some ((hi : Int), (lo : Int)) ∧ lo < hi ∧ hi < g.n.toNat ∧ hi + lo = p + q ∧ lamG g p q = lamG g hi lo := by
        by_cases z : (p : Int) < (q : Int)
        · exact ⟨q, p, by rw [if_pos z], by omega, hq, by omega, lamG_sym h hp hq⟩
        · exact ⟨p, q, by rw [if_neg z], by omega, hp, rfl, rfl⟩
      obtain ⟨hi, lo, e1, hlt, hhi, hsum, elam⟩ := hl
      rw [e1, bind_some']
      dsimp only
      have i3' := i3 (by omega)
      rw [elam, hT.step h hhi hlt] at i3'
      have hu := hT.up_eq hhi
      have hul := hang_lt X hi hi (by omega)
      have hm : ∃ m' : Int, (if (!b) = true then ck (0 ≤ (hi : Int) ∧ (hi : Int) < ((w.length : Nat) : Int)) (some (w.getD (hi : Int).toNat (0 : Int), true)) else ck (0 ≤ (hi : Int) ∧ (hi : Int) < ((w.length : Nat) : Int)) (if w.getD (hi : Int).toNat (0 : Int) < m then some (w.getD (hi : Int).toNat (0 : Int), true) else some (m, b))) = some (m', true) ∧ m' = (if b = true then min m (w.getD hi 0) else w.getD hi 0) ∧ ∃ a, 0 < a ∧ a < g.n.toNat ∧ m' = w.getD a 0 := by
        rw [ck_some (⟨by omega, by omega⟩ : 0 ≤ (hi : Int) ∧ (hi : Int) < ((w.length : Nat) : Int)), ck_some (⟨by omega, by omega⟩ : 0 ≤ (hi : Int) ∧ (hi : Int) < ((w.length : Nat) : Int)), Int.toNat_natCast]
        cases b with
        | false => exact ⟨w.getD hi 0, rfl, rfl, hi, by omega, hhi, rfl⟩
        | true =>
          rw [if_neg (by decide), if_pos rfl]
          by_cases z : w.getD hi 0 < m
          · rw [if_pos z]; exact ⟨_, rfl, by omega, hi, by omega, hhi, rfl⟩
          · rw [if_neg z]; exact ⟨_, rfl, by omega, i1 rfl⟩
      obtain ⟨m', e2, e3, hin⟩ := hm
      rw [e2, bind_some']
      dsimp only
      rw [ck_some ⟨by omega, by omega⟩, Int.toNat_natCast, hu]
      refine .inl ⟨_, rfl, ⟨hang X hi hi, lo, rfl, rfl, by omega, by omega, fun _ => hin, fun z => ⟨rfl, ?_⟩, fun z => ?_⟩, ?_⟩
      · dsimp only
        rw [if_pos z] at i3'
        rw [i3', e3]
      · dsimp only
        rw [if_neg z] at i3'
        rw [i3', e3, if_pos rfl]
        cases b
        · rfl
        · rw [if_pos rfl, if_pos rfl]; omega
      · dsimp only; omega
    · rw [if_neg c]
      have : p = q := by omega
      obtain ⟨b1, m1⟩ := i2 this
      exact .inr (.inl ⟨_, rfl, _, _, _, _, rfl, m1, i1 b1⟩)) (n := 1000000) (s := ((s : Int), (t : Int), 0, false)) ⟨s, t, rfl, rfl, hs, ht, (fun z => by cases z), fun z => absurd z hne, fun _ => rfl⟩ (by dsimp only; omega)
  subst hq
  rw [e, bind_some']
  dsimp only
  rw [hm]
  exact ⟨rfl, a, ha.1, ha.2.1, by rw [← hm]; exact ha.2.2⟩
end
theorem cnt_few {N : Nat} {W : Nat → Int} : ∀ (m : Nat) {S : Nat → Bool}, (∀ v, v < N → S v = true → ∃ a, 0 < a ∧ a ≤ m ∧ (v : Int) = W a) → cnt S N ≤ m
  | 0, S, h => by
    have : cnt S N ≤ cnt (fun _ => false) N := cnt_mono fun x hx e => by obtain ⟨a, a1, a2, _⟩ := h x hx e; omega
    have z : ∀ k, cnt (fun _ => false) k = 0 := fun k => by
      induction k with
      | zero => rfl
      | succ k ih => rw [cnt, ih]; rfl
    rw [z] at this; exact this
  | m + 1, S, h => by
    have ih := cnt_few (N := N) (W := W) m (S := fun v => S v && decide ((v : Int) ≠ W (m + 1))) fun v hv e => by
      simp only [Bool.and_eq_true, decide_eq_true_eq] at e
      obtain ⟨a, a1, a2, a3⟩ := h v hv e.1
      exact ⟨a, a1, Classical.byContradiction fun z => e.2 (by rw [a3, show a = m + 1 by omega]), a3⟩
    by_cases c : ∃ u, u < N ∧ S u = true ∧ (u : Int) = W (m + 1)
    · obtain ⟨u, u1, u2, u3⟩ := c
      have := cnt_upto (S := S) (T := fun v => S v && decide ((v : Int) ≠ W (m + 1))) (u := u) u1 u2 (by simp [u3]) fun x hx hne => by
        have : (x : Int) ≠ W (m + 1) := by omega
        simp [this]
      omega
    · have : cnt S N ≤ cnt (fun v => S v && decide ((v : Int) ≠ W (m + 1))) N := cnt_mono fun x hx e => by
        rw [e]
        simp only [Bool.true_and, decide_eq_true_eq]
        exact fun z => c ⟨x, hx, e, z⟩
      omega
theorem PairsFew_true (g : Graph) : weirkeep_PairsFew_F g = some true := by
  unfold weirkeep_PairsFew_F
  rw [partedF_eq, bind_some', if_neg (by decide)]
  by_cases h : OkP g
  · have hn0 := h.ok.n0; have hn := h.ok.n1
    obtain ⟨up, w, X, e, hT⟩ := tree_ok h
    rw [e, bind_some']
    dsimp only
    rw [if_neg (by decide)]
    by_cases c : g.n < 2
    · rw [if_pos c, if_pos rfl, if_pos (by rw [hT.l0]; omega)]
    · rw [if_neg c, ck_some (by unfold InI; omega)]
      obtain ⟨l, el, h1, h2⟩ := forC_inv (f := weirkeep_PairsFew_B1 g up w) (fun k l => l.length ≤ 12 * k ∧ ∀ x, x ∈ l → (0 ≤ x ∧ x < 1000000) ∧ ∃ a, 0 < a ∧ a < g.n.toNat ∧ x = w.getD a 0) (n := g.n.toNat) (k := 0) (s := []) ⟨by simp, fun x hx => by cases hx⟩ fun k l _ hk ⟨i1, i2⟩ => by
        unfold weirkeep_PairsFew_B1
        rw [ck_some (by unfold InI; omega)]
        obtain ⟨l2, e2, k1, k2⟩ := forC_inv (f := weirkeep_PairsFew_B2 g up w k) (fun j l => l.length ≤ 12 * k + j ∧ ∀ x, x ∈ l → (0 ≤ x ∧ x < 1000000) ∧ ∃ a, 0 < a ∧ a < g.n.toNat ∧ x = w.getD a 0) (n := k) (k := 0) (s := l) ⟨by omega, i2⟩ fun j l _ hj ⟨j1, j2⟩ => by
          have hkn : k < g.n.toNat := by omega
          have hjn : j < g.n.toNat := by omega
          unfold weirkeep_PairsFew_B2
          obtain ⟨p1, pM⟩ := lam_max h hkn hjn (by omega)
          obtain ⟨o1, a, a1, a2, a3⟩ := on_ok h hT hkn hjn (by omega)
          have el : lamG g k j = lamF g k j := if_neg (by omega)
          have hok := bothN_ok h (s := (k : Int)) (t := (j : Int)) (by omega) (by omega) (by omega) (by omega) (by omega)
          have b1 := pM.nonneg hok
          have b2 := pM.le_total hok
          have b3 : (bothN g (k : Int) (j : Int)).as.length ≤ 60 := hok.g.len
          rw [p1, bind_some']
          dsimp only
          rw [o1, bind_some']
          dsimp only
          rw [if_neg (by decide), if_neg (by decide), if_neg (by rw [el]; exact fun z => z rfl), ck_some (by omega)]
          refine ⟨_, rfl, by simp; omega, fun x hx => ?_⟩
          rcases List.mem_append.1 hx with hx | hx
          · exact j2 x hx
          · rw [List.mem_singleton.1 hx]
            exact ⟨⟨by omega, by omega⟩, a, a1, a2, by rw [← el]; exact a3⟩
        rw [e2, bind_some']
        exact ⟨l2, rfl, by omega, k2⟩
      rw [el, bind_some']
      dsimp only
      obtain ⟨M, eM, sM, aM⟩ := sortI_all lessI (l := l) (by omega) (fun _ _ => trivial)
      have lM := sM.len
      rw [eM, bind_some', ck_some lM]
      obtain ⟨t, et, ht⟩ := compact_len (s := M) (by omega)
      rw [et, bind_some']
      have mem : ∀ x, x ∈ M → (0 ≤ x ∧ x < 1000000) ∧ ∃ a, 0 < a ∧ a < g.n.toNat ∧ x = w.getD a 0 := fun x hx => h2 x (sM.mem (Nat.le_refl _) hx)
      rw [← lM] at aM
      have nv := new_values (n := 1000000) aM fun x hx => (mem x hx).1
      have few := cnt_few (N := 1000000) (W := fun a => w.getD a 0) (g.n.toNat - 1) (S := hasS M) fun v hv e => by
        obtain ⟨a, a1, a2, a3⟩ := (mem _ (of_decide_eq_true e)).2
        exact ⟨a, a1, by omega, a3⟩
      exact congrArg some (decide_eq_true (by omega))
  · have hck : ∃ e, e ≠ 0 ∧ pairs_Tree_F g = some ([], [], e) := by
      rcases pairsCheck_cases g with ⟨z, _⟩ | ⟨_, e, he, e1⟩
      · exact absurd z h
      · exact ⟨e, he, by unfold pairs_Tree_F; rw [e1, bind_some', if_pos he]⟩
    obtain ⟨e, he, e1⟩ := hck
    rw [e1, bind_some']
    dsimp only
    rw [if_pos he, if_neg he, if_pos he, ck_some (by unfold InI; simp)]
    rfl
end Go.Proofs.Ytkpdkigkhbkfiaa
