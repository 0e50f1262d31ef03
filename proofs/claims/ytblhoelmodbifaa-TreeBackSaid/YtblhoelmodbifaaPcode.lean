/- Package tree: Code undoes Decode, in whatever order the arcs stand. -/
import Derived.Test.YtblhoelmodbifaaPdecode
import Derived.Test.YtblhoelmodbifaaPparts
namespace Go.Proofs.Ytblhoelmodbifaa
open Go Go.Proofs.Ytblhoelmodbifaa.Sx
set_option linter.unusedVariables false
set_option linter.unusedSimpArgs false
def touch (x : Int) (a : Arc) : Bool := decide (a.f = x ∨ a.t = x)
def degT (L : List Arc) (x : Int) : Nat := L.countP (touch x)
theorem touch_mm {a b x : Int} : touch x ⟨min a b, max a b, 0⟩ = true ↔ (a = x ∨ b = x) := by
  unfold touch
  dsimp only
  rw [decide_eq_true_iff]
  omega
theorem Peel.rng {n : Nat} {G r : List Int} {es : List Arc} (h : Peel n G r es) : ∀ x, x ∈ r → 0 ≤ x ∧ x < n := by
  induction h with
  | nil => intro x hx; cases hx
  | step hl hk hne h0 h1 hn hm h ih =>
    intro x hx
    rcases List.mem_cons.1 hx with rfl | hx
    · exact h1
    · exact ih x hx
theorem Peel.good {n : Nat} {G r : List Int} {es : List Arc} (h : Peel n G r es) : es.length = r.length + 1 ∧ ∀ a, a ∈ es → 0 ≤ a.f ∧ a.f < n ∧ 0 ≤ a.t ∧ a.t < n ∧ a.c = 0 := by
  induction h with
  | nil ha hb hab h0 h1 h2 =>
    refine ⟨rfl, fun a ha => ?_⟩
    obtain rfl := List.mem_singleton.1 ha
    dsimp only
    omega
  | step hl hk hne h0 h1 hn hm h ih =>
    refine ⟨by simp [ih.1], fun a ha => ?_⟩
    rcases List.mem_cons.1 ha with rfl | ha
    · dsimp only
      omega
    · exact ih.2 a ha
theorem Peel.deg {n : Nat} {G r : List Int} {es : List Arc} (h : Peel n G r es) : (∀ x, x ∈ G → degT es x = 0) ∧ ∀ x : Int, 0 ≤ x → x < n → x ∉ G → (degT es x : Int) = 1 + occ r x := by
  induction h with
  | nil ha hb hab h0 h1 h2 =>
    rename_i G a b
    refine ⟨fun x hx => ?_, fun x x0 x1 hx => ?_⟩
    · have n1 : a ≠ x := fun e => ha (e ▸ hx)
      have n2 : b ≠ x := fun e => hb (e ▸ hx)
      unfold degT touch
      simp [n1, n2]
    · rcases h2 x x0 x1 hx with rfl | rfl <;> (unfold degT touch; simp [occ_nil])
  | step hl hk hne h0 h1 hn hm h ih =>
    rename_i G r es leaf k
    have hd : ∀ x, degT (⟨min leaf k, max leaf k, 0⟩ :: es) x = degT es x + if leaf = x ∨ k = x then 1 else 0 := fun x => by
      unfold degT
      rw [List.countP_cons]
      by_cases c : leaf = x ∨ k = x
      · rw [if_pos (touch_mm.2 c), if_pos c]
      · rw [if_neg (fun z => c (touch_mm.1 z)), if_neg c]
    refine ⟨fun x hx => ?_, fun x x0 x1 hx => ?_⟩
    · rw [hd, ih.1 x (by simp [hx]), if_neg]
      rintro (rfl | rfl)
      · exact hl hx
      · exact hk hx
    · rw [hd, occ_cons]
      by_cases c : leaf = x
      · subst c
        rw [ih.1 _ (by simp), if_pos (.inl rfl), if_neg (fun e => hne e.symm), occ_none fun z => hn (by simp [z])]
        rfl
      · have := ih.2 x x0 x1 (by simp [hx]; exact fun z => c z.symm)
        by_cases c2 : k = x
        · rw [if_pos (.inr c2), if_pos c2]; omega
        · rw [if_neg (fun z => z.elim c c2), if_neg c2]; omega
theorem Peel.conn {n : Nat} {G r : List Int} {es : List Arc} (h : Peel n G r es) (m : Int → Int) : (∀ a, a ∈ es → m a.f = m a.t) → ∀ x y : Int, 0 ≤ x → x < n → x ∉ G → 0 ≤ y → y < n → y ∉ G → m x = m y := by
  induction h with
  | nil ha hb hab h0 h1 h2 =>
    rename_i G a b
    intro hm x y x0 x1 hx y0 y1 hy
    have := hm _ (List.mem_singleton.2 rfl)
    dsimp only at this
    rcases h2 x x0 x1 hx with rfl | rfl <;> rcases h2 y y0 y1 hy with rfl | rfl
    · rfl
    · exact this
    · exact this.symm
    · rfl
  | step hl hk hne h0 h1 hn hmn h ih =>
    rename_i G r es leaf k
    intro hm x y x0 x1 hx y0 y1 hy
    have harc := hm _ (List.mem_cons_self ..)
    dsimp only at harc
    have hlk : m leaf = m k := by
      rcases Int.le_total leaf k with q | q
      · rw [Int.min_eq_left q, Int.max_eq_right q] at harc; exact harc
      · rw [Int.min_eq_right q, Int.max_eq_left q] at harc; exact harc.symm
    have ih := ih fun a ha => hm a (List.mem_cons_of_mem _ ha)
    have key : ∀ z : Int, 0 ≤ z → z < n → z ∉ G → ∃ w : Int, 0 ≤ w ∧ w < n ∧ w ∉ G ++ [leaf] ∧ m z = m w := fun z z0 z1 hz => by
      by_cases c : z = leaf
      · subst c
        exact ⟨k, h1.1, h1.2, by simp [hk]; exact fun e => hne e.symm, hlk⟩
      · exact ⟨z, z0, z1, by simp [hz, c], rfl⟩
    obtain ⟨x', p1, p2, p3, p4⟩ := key x x0 x1 hx
    obtain ⟨y', r1, r2, r3, r4⟩ := key y y0 y1 hy
    rw [p4, r4]
    exact ih x' y' p1 p2 p3 r1 r2 r3
/-! ### the loop that looks at a node -/
theorem look_ok (x : Nat) (L : List Arc) (hL : L.length ≤ 1000) : ∃ (i : Int) (m : Nat), forN (tree_Code_B3 x L) L.length 0 ((-1 : Int), 0) = some (i, m) ∧ m = degT L (x : Int) ∧ (0 < m → 0 ≤ i ∧ i < L.length ∧ touch (x : Int) (L.getD i.toNat El.d) = true) := by
  obtain ⟨s, e, h1, h2⟩ := forN_inv (f := tree_Code_B3 x L) (fun j s => s.2 = degT (L.take j) (x : Int) ∧ (0 < s.2 → 0 ≤ s.1 ∧ s.1 < L.length ∧ touch (x : Int) (L.getD s.1.toNat El.d) = true)) (n := L.length) (k := 0) (s := ((-1 : Int), 0)) ⟨rfl, fun h => absurd h (by decide)⟩ fun j s _ hj ⟨i1, i2⟩ => by
    obtain ⟨i, m⟩ := s
    dsimp only at i1 i2
    have hj' : j < L.length := by omega
    have hb : degT (L.take j) (x : Int) ≤ 1000 := Nat.le_trans List.countP_le_length (by rw [List.length_take]; omega)
    have ht : degT (L.take (j + 1)) (x : Int) = degT (L.take j) (x : Int) + if touch (x : Int) (L.getD j El.d) = true then 1 else 0 := by
      unfold degT
      rw [take_succ_getD hj', List.countP_append, List.countP_singleton]
    unfold tree_Code_B3
    dsimp only
    by_cases c1 : (L.getD j El.d).f = (x : Int)
    · have htt : touch (x : Int) (L.getD j El.d) = true := decide_eq_true (.inl c1)
      rw [if_pos c1, ck_some (inI_small (by omega) (by omega))]
      refine ⟨_, rfl, ?_, fun _ => ⟨by dsimp only; omega, by dsimp only; omega, by dsimp only; rw [Int.toNat_natCast]; exact htt⟩⟩
      rw [ht, if_pos htt, ← i1]
    · rw [if_neg c1]
      by_cases c2 : (L.getD j El.d).t = (x : Int)
      · have htt : touch (x : Int) (L.getD j El.d) = true := decide_eq_true (.inr c2)
        rw [if_pos c2, ck_some (inI_small (by omega) (by omega))]
        refine ⟨_, rfl, ?_, fun _ => ⟨by dsimp only; omega, by dsimp only; omega, by dsimp only; rw [Int.toNat_natCast]; exact htt⟩⟩
        rw [ht, if_pos htt, ← i1]
      · rw [if_neg c2]
        have htt : ¬ touch (x : Int) (L.getD j El.d) = true := fun z => by
          rcases of_decide_eq_true z with q | q
          · exact c1 q
          · exact c2 q
        refine ⟨_, rfl, ?_, i2⟩
        rw [ht, if_neg htt, ← i1]
        rfl
  rw [Nat.zero_add, List.take_of_length_le (Nat.le_refl _)] at h1
  exact ⟨s.1, s.2, e, h1, h2⟩
theorem del_erase {α : Type} (xs : List α) (k : Nat) : del xs k (k + 1) = xs.eraseIdx k := by
  unfold del
  rw [List.eraseIdx_eq_take_drop_succ]
theorem perm_erase {α : Type} (d : α) : ∀ {xs : List α} {k : Nat}, k < xs.length → xs.Perm (xs.getD k d :: xs.eraseIdx k)
  | [], k, h => absurd h (by simp)
  | x :: xs, 0, _ => List.Perm.refl _
  | x :: xs, k + 1, h => by
    have := perm_erase d (xs := xs) (k := k) (by simpa using h)
    exact (List.Perm.cons x this).trans (List.Perm.swap _ _ _)
/-- the state of Code -/
structure CSt (n : Nat) (G r : List Int) (L : List Arc) (gone : List Bool) : Prop where
  peel : ∃ es, Peel n G r es ∧ L.Perm es
  len : gone.length = n
  g : ∀ x : Nat, x < n → (gone.getD x false = true ↔ (x : Int) ∈ G)
theorem code_round {n : Nat} (hn : n ≤ 12) {G r : List Int} {k : Int} {L : List Arc} {gone : List Bool} (h : CSt n G (k :: r) L gone) (hL : L.length ≤ 60) (out : List Int) (ho : out.length ≤ 12) :
    ∃ L' gone' G', forC tree_Code_B2 n 0 (L, gone, out) = some (.go (L', gone', out ++ [k])) ∧ CSt n G' r L' gone' ∧ L'.length ≤ 60 := by
  obtain ⟨es0, hp, hperm⟩ := h.peel
  have hd := hp.deg
  have hdL : ∀ x, degT L x = degT es0 x := fun x => hperm.countP_eq _
  have hr := hp.rng
  cases hp with
  | step hl hk hne h0 h1 hnm hm hp' =>
  rename_i es leaf
  have hd' := hp'.deg
  have hone : degT L leaf = 1 := by
    have := hd.2 leaf h0.1 h0.2 hl
    rw [occ_none hnm] at this
    rw [hdL]; omega
  obtain ⟨q, e, hq⟩ := forC_or (f := tree_Code_B2) (fun j s => s = (L, gone, out) ∧ (j : Int) ≤ leaf) (fun q => ∃ L' gone' G', q = .go (L', gone', out ++ [k]) ∧ CSt n G' r L' gone' ∧ L'.length ≤ 60) (n := n) (k := 0) (s := (L, gone, out)) ⟨rfl, h0.1⟩ (fun j s _ hj ⟨hs, hjl⟩ => by
    subst hs
    have hgl := h.len
    obtain ⟨i, m, e1, hm1, hm2⟩ := look_ok j L (by omega)
    unfold tree_Code_B2
    dsimp only
    rw [e1, bind_some']
    dsimp only
    rw [ck_some (by omega)]
    by_cases c1 : gone.getD j false = true
    · rw [if_pos c1]
      have hjG := (h.g j (by omega)).1 c1
      have : (j : Int) ≠ leaf := fun z => hl (z ▸ hjG)
      exact .inl ⟨_, rfl, rfl, by omega⟩
    rw [if_neg c1]
    have hjG : (j : Int) ∉ G := fun z => c1 ((h.g j (by omega)).2 z)
    by_cases c2 : ((m : Nat) : Int) ≠ 1
    · rw [if_pos c2]
      refine .inl ⟨_, rfl, rfl, ?_⟩
      have : (j : Int) ≠ leaf := fun z => c2 (by rw [hm1, z, hone]; rfl)
      omega
    rw [if_neg c2]
    -- it is the leaf
    have hj0 : (j : Int) = leaf := Classical.byContradiction fun z => by
      have hmem := hm (j : Int) (by omega) (by omega) hjG
      have h2 := hd.2 (j : Int) (by omega) (by omega) hjG
      have h3 := occ_some hmem
      rw [← hdL, ← hm1] at h2
      omega
    obtain ⟨i0, i1, i2⟩ := hm2 (by omega)
    have hiL : i.toNat < L.length := by omega
    -- the arc is the one that Decode made
    have hgd : degT es leaf = 0 := hd'.1 leaf (by simp)
    have harc : L.getD i.toNat El.d = ⟨min leaf k, max leaf k, 0⟩ := by
      have hmem : L.getD i.toNat El.d ∈ (⟨min leaf k, max leaf k, 0⟩ : Arc) :: es := hperm.mem_iff.1 (mem_getD (d := El.d) hiL)
      rcases List.mem_cons.1 hmem with q | q
      · exact q
      · rw [hj0] at i2
        exact absurd i2 (List.countP_eq_zero.1 hgd _ q)
    have hrest : (L.eraseIdx i.toNat).Perm es := by
      have := (perm_erase El.d hiL).symm.trans hperm
      rw [harc] at this
      exact (List.perm_cons _).1 this
    have hmx : min leaf k + max leaf k = leaf + k := by omega
    rw [ck_some (by omega), harc]
    dsimp only
    rw [ck_some (inI_small (by omega) (by omega)), ck_some (inI_small (by omega) (by omega)), ck_some (by omega), ck_some (inI_small (by omega) (by omega))]
    have hdel : slices_Delete_Arc_F L i (i + 1) = some (L.eraseIdx i.toNat) := by
      unfold slices_Delete_Arc_F
      rw [ck_some (by omega), ck_some (by omega), ck_some (by omega), ck_some (by omega), show (i + 1).toNat = i.toNat + 1 by omega, del_erase]
    rw [hdel, bind_some']
    refine .inr (.inl ⟨_, rfl, L.eraseIdx i.toNat, gone.set j true, G ++ [leaf], ?_, ⟨⟨es, hp', hrest⟩, by simp [hgl], fun x hx => ?_⟩, ?_⟩)
    · rw [show min leaf k + max leaf k - (j : Int) = k by omega]
    · rw [getD_set']
      by_cases z : x = j
      · subst z
        rw [if_pos ⟨rfl, by omega⟩]
        simp [hj0]
      · have hz : (x : Int) ≠ leaf := by omega
        rw [if_neg (fun w => z w.1), h.g x hx]
        simp [hz]
    · rw [List.length_eraseIdx_of_lt hiL]; omega) (fun s ⟨_, hle⟩ => absurd hle (by omega))
  obtain ⟨L', gone', G', rfl, hc, hl'⟩ := hq
  exact ⟨L', gone', G', e, hc, hl'⟩
theorem take_succ_getD0 {l : List Int} {j : Nat} (h : j < l.length) : l.take (j + 1) = l.take j ++ [l.getD j 0] := by
  rw [List.take_succ_eq_append_getElem h]; simp [List.getD_eq_getElem?_getD, h]
theorem code_loop {g : Graph} {n : Nat} (hgn : g.n = (n : Int)) (hn : n ≤ 12) (h2 : 2 ≤ n) (l : List Int) (hl : l.length + 2 = n) {L : List Arc} (hL : L.length ≤ 60) (hperm : ∃ es, Peel n [] l es ∧ L.Perm es) :
    ∃ s, loopC (tree_Code_B1 g) 1000000 (L, List.replicate n false, []) = some (.go s) ∧ s.2.2 = l := by
  obtain ⟨q, e, hq⟩ := loopC_or (f := tree_Code_B1 g) (fun s => ∃ G, CSt n G (l.drop s.2.2.length) s.1 s.2.1 ∧ s.2.2 = l.take s.2.2.length ∧ s.2.2.length ≤ l.length ∧ s.1.length ≤ 60) (fun q => ∃ s, q = .go s ∧ s.2.2 = l) (fun s => l.length - s.2.2.length) (fun s ⟨G, i1, i2, i3, i4⟩ => by
    obtain ⟨L, gone, out⟩ := s
    dsimp only at i1 i2 i3 i4
    unfold tree_Code_B1
    dsimp only
    rw [hgn, ck_some (inI_small (by omega) (by omega))]
    by_cases c : ((out.length : Nat) : Int) < (n : Int) - 2
    · rw [if_pos c, ck_some (inI_small (by omega) (by omega)), Int.toNat_natCast]
      rw [drop_getD 0 (show out.length < l.length by omega)] at i1
      obtain ⟨L', gone', G', e1, j1, j2⟩ := code_round hn i1 i4 out (by omega)
      rw [e1, bind_some']
      have hlen : (out ++ [l.getD out.length 0]).length = out.length + 1 := by simp
      refine .inl ⟨_, rfl, ⟨G', ?_, ?_, ?_, j2⟩, ?_⟩
      · dsimp only; rw [hlen]; exact j1
      · dsimp only
        rw [hlen, take_succ_getD0 (show out.length < l.length by omega), ← i2]
      · dsimp only; rw [hlen]; omega
      · dsimp only; rw [hlen]; omega
    · rw [if_neg c]
      refine .inr (.inl ⟨_, rfl, _, rfl, ?_⟩)
      dsimp only
      rw [i2, show out.length = l.length by omega, List.take_of_length_le (Nat.le_refl _)]) (n := 1000000) (s := (L, List.replicate n false, [])) ⟨[], ⟨hperm, by simp, fun x hx => by rw [getD_replicate', if_pos hx]; simp⟩, rfl, by simp, hL⟩ (by dsimp only; simp; omega)
  obtain ⟨s, rfl, h⟩ := hq
  exact ⟨s, e, h⟩
/-! ### the whole -/
theorem no_other {l : List Int} (h : ∀ x, x ∈ l → x = 0) : slices_ContainsFunc_int_tree_Is_c1_F l = some false := by
  unfold slices_ContainsFunc_int_tree_Is_c1_F slices_IndexFunc_int_tree_Is_c1_F
  obtain ⟨q, e, hq⟩ := forC_or (f := slices_IndexFunc_int_tree_Is_c1_B1 l) (fun _ _ => True) (fun q => q = .go ()) (n := l.length) (k := 0) (s := ()) trivial (fun j s _ hj _ => by
    unfold slices_IndexFunc_int_tree_Is_c1_B1 tree_Is_c1_F
    rw [bind_some', if_neg (by rw [h _ (mem_getD (d := (0 : Int)) (show j < l.length by omega))]; decide)]
    exact .inl ⟨(), rfl, trivial⟩) (fun s _ => rfl)
  rw [e, hq]
  rfl
theorem peel_ok {l : List Int} (hl : l.length ≤ 10) {es L : List Arc} (h : Peel (l.length + 2) [] l es) (hp : L.Perm es) : Ok ⟨(l.length : Int) + 2, L⟩ := by
  have hg := h.good
  have hlen := hp.length_eq
  exact ⟨by dsimp only; omega, by dsimp only; omega, by dsimp only; omega, fun a ha => by
    have := hg.2 a (hp.mem_iff.1 ha)
    exact ⟨by omega, by dsimp only; omega, by omega, by dsimp only; omega, by omega, by omega⟩⟩
theorem is_ok {l : List Int} (hl : l.length ≤ 10) {es L : List Arc} (h : Peel (l.length + 2) [] l es) (hp : L.Perm es) : tree_Is_F ⟨(l.length : Int) + 2, L⟩ = some (true, 0) := by
  have hg := peel_ok hl h hp
  have hlen := hp.length_eq
  have hgl := h.good.1
  obtain ⟨p, e, hP⟩ := parts_ok hg
  have hpl := hP.pi.len
  dsimp only at hpl
  have hz : ∀ x, x ∈ p → x = 0 := fun x hx => by
    obtain ⟨k, hk, q⟩ := getD_of_mem (d := (0 : Int)) hx
    have h0 := hP.pi.lo 0 (by omega) (by dsimp only; omega)
    have hc := h.conn (atI p) (fun a ha => hP.arc a (hp.mem_iff.2 ha)) (k : Int) 0 (by omega) (by omega) (by simp) (by omega) (by omega) (by simp)
    unfold atI at hc h0
    rw [Int.toNat_natCast, q] at hc
    omega
  unfold tree_Is_F
  rw [e, bind_some']
  dsimp only
  rw [if_neg (by decide), ck_some (inI_small (by omega) (by omega)), if_pos (by omega), no_other hz]
  rfl
theorem code_ok {l : List Int} (hl : l.length ≤ 10) {es L : List Arc} (h : Peel (l.length + 2) [] l es) (hp : L.Perm es) : tree_Code_F ⟨(l.length : Int) + 2, L⟩ = some (l, 0) := by
  have hlen := hp.length_eq
  have hgl := h.good.1
  unfold tree_Code_F
  rw [is_ok hl h hp, bind_some']
  dsimp only
  rw [if_neg (by decide), if_neg (by decide), clone_eq (by omega), bind_some', ck_some (by omega)]
  obtain ⟨s, e, hs⟩ := code_loop (g := ⟨(l.length : Int) + 2, L⟩) (n := l.length + 2) (by dsimp only; omega) (by omega) (by omega) l rfl (L := L) (by omega) ⟨es, h, hp⟩
  rw [show ((l.length : Int) + 2).toNat = l.length + 2 by omega, e, bind_some']
  obtain ⟨a, b, c⟩ := s
  exact congrArg some (congrArg (·, (0 : Int)) hs)
end Go.Proofs.Ytblhoelmodbifaa
