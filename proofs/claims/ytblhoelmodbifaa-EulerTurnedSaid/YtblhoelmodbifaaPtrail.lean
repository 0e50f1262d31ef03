/- Package euler: Trail, the loop that goes and comes back. -/
import Derived.Test.YtblhoelmodbifaaPeuler
import Derived.Test.YtblhoelmodbifaaGeuler
namespace Go.Proofs.Ytblhoelmodbifaa
open Go Go.Proofs.Ytblhoelmodbifaa.Sx
set_option linter.unusedVariables false
set_option linter.unusedSimpArgs false
def fF (g : Graph) (k : Nat) : Int := (g.as.getD k El.d).f
def tT (g : Graph) (k : Nat) : Int := (g.as.getD k El.d).t
/-! ### the search for an arc that is not used -/
def Found (g : Graph) (used : List Bool) (x : Int) (k : Int) : Prop := (k = -1 ∧ ∀ j, j < g.as.length → fF g j = x → used.getD j false = true) ∨ (0 ≤ k ∧ k < g.as.length ∧ fF g k.toNat = x ∧ used.getD k.toNat false = false)
theorem idx_ok (g : Graph) (x : Int) : ∃ r, slices_IndexFunc_Arc_euler_Trail_c1_F g.as x = some r ∧ ((r = -1 ∧ ∀ j, j < g.as.length → fF g j ≠ x) ∨ (0 ≤ r ∧ r < g.as.length ∧ ∀ j : Nat, (j : Int) < r → fF g j ≠ x)) := by
  unfold slices_IndexFunc_Arc_euler_Trail_c1_F
  obtain ⟨q, e, h1, h2⟩ := forC_or (f := slices_IndexFunc_Arc_euler_Trail_c1_B1 g.as x) (fun j _ => ∀ k, k < j → fF g k ≠ x) (fun q => (q = .go () → ∀ k, k < g.as.length → fF g k ≠ x) ∧ ∀ r, q = .ret r → 0 ≤ r ∧ r < g.as.length ∧ ∀ j : Nat, (j : Int) < r → fF g j ≠ x) (n := g.as.length) (k := 0) (s := ()) (fun k hk => absurd hk (by omega)) (fun j _ _ hj i1 => by
    unfold slices_IndexFunc_Arc_euler_Trail_c1_B1 euler_Trail_c1_F
    rw [bind_some']
    by_cases p : (g.as.getD j El.d).f = x
    · rw [if_pos (decide_eq_true p)]
      exact .inr (.inr ⟨_, rfl, fun e => (by cases e), fun r e => by injection e with e; subst e; exact ⟨by omega, by omega, fun k hk => i1 k (by omega)⟩⟩)
    · rw [if_neg (by rw [decide_eq_false p]; decide)]
      refine .inl ⟨(), rfl, fun k hk => ?_⟩
      by_cases e : k = j
      · subst e; exact p
      · exact i1 k (by omega)) (fun _ i1 => ⟨fun _ k hk => i1 k (by omega), fun r e => (by cases e)⟩)
  rw [e, bind_some']
  cases q with
  | go s => exact ⟨-1, rfl, .inl ⟨rfl, h1 rfl⟩⟩
  | ret r => exact ⟨r, rfl, .inr (h2 r rfl)⟩
theorem search_ok {g : Graph} (hl : g.as.length ≤ 60) {used : List Bool} (hu : used.length = g.as.length) (x : Int) : ∃ r k, slices_IndexFunc_Arc_euler_Trail_c1_F g.as x = some r ∧ loopC (euler_Trail_B3 g used x) 1000000 r = some (.go k) ∧ Found g used x k := by
  obtain ⟨r, er, hr⟩ := idx_ok g x
  obtain ⟨q, e, hQ⟩ := loopC_or (f := euler_Trail_B3 g used x) (fun y => (y = -1 ∧ ∀ j, j < g.as.length → fF g j = x → used.getD j false = true) ∨ (0 ≤ y ∧ y < g.as.length ∧ ∀ j : Nat, (j : Int) < y → fF g j = x → used.getD j false = true)) (fun q => ∃ k, q = .go k ∧ Found g used x k) (fun y => if y < 0 then 0 else g.as.length + 1 - y.toNat) (fun y hy => by
    unfold euler_Trail_B3
    rcases hy with ⟨rfl, h⟩ | ⟨h0, h1, h2⟩
    · rw [if_neg (by decide), bind_some']
      exact .inr (.inl ⟨-1, rfl, -1, rfl, .inl ⟨rfl, h⟩⟩)
    · rw [if_pos h0, ck_some (by omega)]
      have next : (used.getD y.toNat false = true ∨ fF g y.toNat ≠ x) → (∃ s', (ck (InI (y + 1)) <| if (y + 1) = ((g.as.length : Nat) : Int) then some (Ct.go (-1)) else some (Ct.go (y + 1)) : Option (Ct Int (Ct ((List Bool) × (List Int) × (List Int) × Int) ((List Int) × Int)))) = some (.go s') ∧ ((s' = -1 ∧ ∀ j, j < g.as.length → fF g j = x → used.getD j false = true) ∨ (0 ≤ s' ∧ s' < g.as.length ∧ ∀ j : Nat, (j : Int) < s' → fF g j = x → used.getD j false = true)) ∧ (if s' < 0 then 0 else g.as.length + 1 - s'.toNat) < if y < 0 then 0 else g.as.length + 1 - y.toNat) := fun hc => by
        have all : ∀ j : Nat, (j : Int) < y + 1 → fF g j = x → used.getD j false = true := fun j hj hf => by
          by_cases ej : j = y.toNat
          · subst ej
            exact hc.resolve_right fun z => z hf
          · exact h2 j (by omega) hf
        rw [ck_some (inI_small (by omega) (by omega)), if_neg (show ¬ y < 0 by omega)]
        by_cases c : (y + 1) = ((g.as.length : Nat) : Int)
        · rw [if_pos c]
          exact ⟨-1, rfl, .inl ⟨rfl, fun j hj => all j (by omega)⟩, by rw [if_pos (by decide)]; omega⟩
        · rw [if_neg c]
          exact ⟨y + 1, rfl, .inr ⟨by omega, by omega, all⟩, by rw [if_neg (by omega)]; omega⟩
      by_cases p1 : used.getD y.toNat false = true
      · rw [if_pos p1, bind_some']
        exact .inl (next (.inl p1))
      · rw [if_neg p1, ck_some (by omega)]
        by_cases p2 : (g.as.getD y.toNat El.d).f ≠ x
        · rw [if_pos p2, bind_some']
          exact .inl (next (.inr p2))
        · rw [if_neg p2, bind_some']
          exact .inr (.inl ⟨y, rfl, y, rfl, .inr ⟨h0, h1, Classical.byContradiction p2, by simpa using p1⟩⟩)) (n := 1000000) (s := r) (by
      rcases hr with ⟨e, h⟩ | ⟨h0, h1, h⟩
      · exact .inl ⟨e, fun j hj hf => absurd hf (h j hj)⟩
      · exact .inr ⟨h0, h1, fun j hj hf => absurd hf (h j hj)⟩) (by split <;> omega)
  obtain ⟨k, rfl, hk⟩ := hQ
  exact ⟨r, k, er, e, hk⟩
/-! ### what is not used -/
def uo (g : Graph) (used : List Bool) (x : Int) : Int := tot (fun k => if used.getD k false = false ∧ fF g k = x then 1 else 0) g.as.length
def ui (g : Graph) (used : List Bool) (x : Int) : Int := tot (fun k => if used.getD k false = false ∧ tT g k = x then 1 else 0) g.as.length
def un (g : Graph) (used : List Bool) : Int := tot (fun k => if used.getD k false = false then 1 else 0) g.as.length
theorem un_range (g : Graph) (used : List Bool) : 0 ≤ un g used ∧ un g used ≤ g.as.length := by
  have a := tot_nonneg (f := fun k => if used.getD k false = false then (1 : Int) else 0) (n := g.as.length) fun k _ => by split <;> omega
  have b := tot_le (f := fun k => if used.getD k false = false then (1 : Int) else 0) (g := fun _ => 1) (n := g.as.length) fun k _ => by split <;> omega
  rw [tot_const] at b
  unfold un
  omega
theorem set_used {g : Graph} {used : List Bool} (hu : used.length = g.as.length) {k : Nat} (hk : k < g.as.length) (hf : used.getD k false = false) :
    (∀ x, uo g (used.set k true) x = uo g used x - if fF g k = x then 1 else 0) ∧ (∀ x, ui g (used.set k true) x = ui g used x - if tT g k = x then 1 else 0) ∧ un g (used.set k true) = un g used - 1 := by
  have hg : ∀ j, (used.set k true).getD j false = if j = k then true else used.getD j false := fun j => by
    rw [getD_set']
    by_cases e : j = k
    · rw [if_pos ⟨e, by omega⟩, if_pos e]
    · rw [if_neg (fun z => e z.1), if_neg e]
  refine ⟨fun x => ?_, fun x => ?_, ?_⟩
  · have : tot (fun j => if j = k then (if fF g k = x then (1 : Int) else 0) else 0) g.as.length = if fF g k = x then 1 else 0 := by
      rw [tot_single (k := k) hk (fun i _ hi => if_neg hi), if_pos rfl]
    unfold uo
    rw [← this, ← tot_sub]
    refine tot_congr fun j hj => ?_
    rw [hg]
    by_cases e : j = k
    · rw [if_pos e, if_pos e, e, hf]; simp
    · rw [if_neg e, if_neg e]; omega
  · have : tot (fun j => if j = k then (if tT g k = x then (1 : Int) else 0) else 0) g.as.length = if tT g k = x then 1 else 0 := by
      rw [tot_single (k := k) hk (fun i _ hi => if_neg hi), if_pos rfl]
    unfold ui
    rw [← this, ← tot_sub]
    refine tot_congr fun j hj => ?_
    rw [hg]
    by_cases e : j = k
    · rw [if_pos e, if_pos e, e, hf]; simp
    · rw [if_neg e, if_neg e]; omega
  · have : tot (fun j => if j = k then (1 : Int) else 0) g.as.length = 1 := by
      rw [tot_single (k := k) hk (fun i _ hi => if_neg hi), if_pos rfl]
    have e : un g used = tot (fun j => (if (used.set k true).getD j false = false then (1 : Int) else 0) + if j = k then 1 else 0) g.as.length := tot_congr fun j hj => by
      rw [hg]
      by_cases e : j = k
      · rw [if_pos e, if_pos e, e, hf]; simp
      · rw [if_neg e, if_neg e]; omega
    rw [tot_add, this] at e
    have e2 : un g (used.set k true) = tot (fun j => if (used.set k true).getD j false = false then (1 : Int) else 0) g.as.length := rfl
    omega
/-! ### the walk -/
/-- the arcs that are done, the last ones first: a way from the node e on to the end -/
inductive DoneW (g : Graph) (e0 : Int) : List Int → Int → Prop where
  | nil : DoneW g e0 [] e0
  | snoc {l : List Int} {e k : Int} : DoneW g e0 l e → 0 ≤ k → k < g.as.length → tT g k.toNat = e → DoneW g e0 (l ++ [k]) (fF g k.toNat)
/-- the arcs under way: a way from the start to where one is -/
inductive OpenW (g : Graph) (st : Int) : List Int → Int → Prop where
  | nil : OpenW g st [] st
  | snoc {l : List Int} {x k : Int} : OpenW g st l x → 0 ≤ k → k < g.as.length → fF g k.toNat = x → OpenW g st (l ++ [k]) (tT g k.toNat)
structure TI (g : Graph) (st e0 : Int) (used : List Bool) (done opn : List Int) (at_ : Int) : Prop where
  ul : used.length = g.as.length
  cnt : un g used + done.length + opn.length = g.as.length
  op : OpenW g st opn at_
  dn : ∃ e, DoneW g e0 done e ∧ ∀ x, uo g used x - ui g used x = (if x = at_ then 1 else 0) - (if x = e then 1 else 0)
  full : ∀ k, k ∈ done → ∀ j, j < g.as.length → fF g j = tT g k.toNat → used.getD j false = true
  mem : ∀ j : Nat, j < g.as.length → used.getD j false = true → (j : Int) ∈ done ∨ (j : Int) ∈ opn
theorem OpenW.last {g : Graph} {st : Int} {l : List Int} {x : Int} (h : OpenW g st l x) : (l = [] ∧ x = st) ∨ ∃ (m : List Int) (k : Int), l = m ++ [k] ∧ 0 ≤ k ∧ k < g.as.length ∧ x = tT g k.toNat ∧ OpenW g st m (fF g k.toNat) := by
  cases h with
  | nil => exact .inl ⟨rfl, rfl⟩
  | snoc h0 h1 h2 h3 => exact .inr ⟨_, _, rfl, h1, h2, rfl, h3 ▸ h0⟩
theorem uo_zero {g : Graph} {used : List Bool} {x : Int} (h : ∀ j, j < g.as.length → fF g j = x → used.getD j false = true) : uo g used x = 0 := tot_zero fun j hj => if_neg fun z => by
  have := h j hj z.2
  rw [z.1] at this
  exact Bool.noConfusion this
theorem ui_nonneg (g : Graph) (used : List Bool) (x : Int) : 0 ≤ ui g used x := tot_nonneg fun k _ => by split <;> omega
/-- one who can't go on is where the way that is done begins -/
theorem TI.stuck {g : Graph} {st e0 : Int} {used : List Bool} {done opn : List Int} {at_ : Int} (h : TI g st e0 used done opn at_) (hf : ∀ j, j < g.as.length → fF g j = at_ → used.getD j false = true) : DoneW g e0 done at_ ∧ ∀ x, uo g used x = ui g used x := by
  obtain ⟨e, h1, h2⟩ := h.dn
  have a := h2 at_
  rw [uo_zero hf, if_pos rfl] at a
  have b := ui_nonneg g used at_
  have e1 : at_ = e := Classical.byContradiction fun z => by
    rw [if_neg z] at a; omega
  subst e1
  refine ⟨h1, fun x => ?_⟩
  have := h2 x
  split at this <;> omega
def MuT (g : Graph) (used : List Bool) (opn : List Int) : Nat := 2 * (un g used).toNat + opn.length
abbrev PT : Type := List Bool × List Int × List Int × Int
theorem trail_step {g : Graph} (hl : g.as.length ≤ 60) {st e0 : Int} {used : List Bool} {done opn : List Int} {at_ : Int} (h : TI g st e0 used done opn at_) :
    (∃ used' done' opn' at', euler_Trail_B2 g (used, done, opn, at_) = some (.go (used', done', opn', at')) ∧ TI g st e0 used' done' opn' at' ∧ MuT g used' opn' < MuT g used opn) ∨
    (euler_Trail_B2 g (used, done, opn, at_) = some (.brk (used, done, opn, at_)) ∧ opn = [] ∧ at_ = st ∧ ∀ j, j < g.as.length → fF g j = at_ → used.getD j false = true) := by
  obtain ⟨r, k, er, ek, hk⟩ := search_ok hl h.ul at_
  have hul := h.ul
  have hcnt := h.cnt
  have hun := un_range g used
  unfold euler_Trail_B2
  dsimp only
  rw [er, bind_some', ek, bind_some']
  dsimp only
  rcases hk with ⟨rfl, hf⟩ | ⟨h0, h1, h2, h3⟩
  · rw [if_neg (by decide)]
    obtain ⟨hd, hbal⟩ := h.stuck hf
    rcases h.op.last with ⟨rfl, hat⟩ | ⟨m, k, rfl, k0, k1, hat, hm⟩
    · right
      rw [if_pos (by rfl)]
      exact ⟨rfl, rfl, hat, hf⟩
    · left
      have hlen : (m ++ [k]).length = m.length + 1 := by simp
      have hget : (m ++ [k]).getD m.length 0 = k := by simp [List.getD_eq_getElem?_getD]
      have hsub : subl (m ++ [k]) 0 m.length = m := by
        refine eq_of_getD (d := (0 : Int)) (by rw [subl_len (by rw [hlen]; omega)]) fun i hi => ?_
        have hi' : i < m.length := by rw [subl_len (by rw [hlen]; omega)] at hi; exact hi
        have := subl_getD (xs := m ++ [k]) (r := 0) (len := m.length) (e := i) hi'
        have e0 : (subl (m ++ [k]) 0 m.length).getD i 0 = (m ++ [k]).getD (i + 0) 0 := this
        rw [e0, Nat.add_zero, List.getD_eq_getElem?_getD, List.getD_eq_getElem?_getD, List.getElem?_append_left hi']
      have en : ((((m ++ [k]).length : Nat) : Int) - 1).toNat = m.length := by rw [hlen]; omega
      rw [hlen] at hcnt
      rw [en, hget, hsub, hlen, if_neg (by omega), ck_some (inI_small (by omega) (by omega)), ck_some (by omega), ck_some (by omega), ck_some (by omega), ck_some (by omega), ck_some ⟨k0, k1⟩]
      refine ⟨_, _, _, _, rfl, ⟨hul, by rw [List.length_append]; simp only [List.length_singleton]; omega, hm, ⟨fF g k.toNat, .snoc hd k0 k1 hat.symm, fun x => by
        rw [hbal x]
        have : (g.as.getD k.toNat El.d).f = fF g k.toNat := rfl
        rw [this]; omega⟩, fun k' hk' j hj hfj => ?_, fun j hj hu => ?_⟩, by unfold MuT; rw [hlen]; omega⟩
      · rcases List.mem_append.1 hk' with hk' | hk'
        · exact h.full k' hk' j hj hfj
        · rw [List.mem_singleton.1 hk'] at hfj
          exact hf j hj (by rw [hfj, hat])
      · rcases h.mem j hj hu with w | w
        · exact .inl (List.mem_append_left _ w)
        · rcases List.mem_append.1 w with w | w
          · exact .inr w
          · exact .inl (by rw [List.mem_singleton.1 w]; simp)
  · left
    obtain ⟨s1, s2, s3⟩ := set_used hul (k := k.toNat) (by omega) h3
    have hun2 := un_range g (used.set k.toNat true)
    rw [if_pos h0, ck_some (by omega), ck_some (by omega), ck_some (by omega)]
    refine ⟨_, _, _, _, rfl, ⟨by simpa using hul, by rw [s3, List.length_append]; simp only [List.length_singleton]; omega, .snoc h.op h0 h1 h2, ?_, fun k' hk' j hj hfj => ?_, fun j hj hu => ?_⟩, by unfold MuT; rw [List.length_append]; simp only [List.length_singleton]; omega⟩
    · obtain ⟨e, d1, d2⟩ := h.dn
      refine ⟨e, d1, fun x => ?_⟩
      have d := d2 x
      have t1 : (g.as.getD k.toNat El.d).t = tT g k.toNat := rfl
      rw [s1, s2, t1, h2]
      by_cases p1 : x = at_
      · rw [if_pos p1] at d
        rw [if_pos p1.symm]
        by_cases p2 : tT g k.toNat = x
        · rw [if_pos p2, if_pos p2.symm]; omega
        · rw [if_neg p2, if_neg (fun z => p2 z.symm)]; omega
      · rw [if_neg p1] at d
        rw [if_neg (fun z => p1 z.symm)]
        by_cases p2 : tT g k.toNat = x
        · rw [if_pos p2, if_pos p2.symm]; omega
        · rw [if_neg p2, if_neg (fun z => p2 z.symm)]; omega
    · have := h.full k' hk' j hj hfj
      rw [getD_set']
      split
      · rfl
      · exact this
    · by_cases e : j = k.toNat
      · exact .inr (by rw [show (j : Int) = k by omega]; simp)
      · rw [getD_set', if_neg (fun z => e z.1)] at hu
        rcases h.mem j hj hu with w | w
        · exact .inl w
        · exact .inr (List.mem_append_left _ w)
/-- the loop's end: all that is done is a way from the start to the end -/
theorem trail_loop {g : Graph} (hl : g.as.length ≤ 60) {st e0 : Int} (hb : ∀ x, uo g (List.replicate g.as.length false) x - ui g (List.replicate g.as.length false) x = (if x = st then 1 else 0) - (if x = e0 then 1 else 0)) :
    ∃ used done, loopC (euler_Trail_B2 g) 1000000 (List.replicate g.as.length false, [], [], st) = some (.go (used, done, [], st)) ∧ TI g st e0 used done [] st ∧ ∀ j, j < g.as.length → fF g j = st → used.getD j false = true := by
  have h0 : TI g st e0 (List.replicate g.as.length false) [] [] st := ⟨by simp, by
    have : un g (List.replicate g.as.length false) = tot (fun _ => 1) g.as.length := tot_congr fun k hk => by
      rw [getD_replicate', if_pos hk, if_pos rfl]
    rw [this, tot_const]; simp, .nil, ⟨e0, .nil, hb⟩, fun k hk => absurd hk (by simp), fun j hj hu => by rw [getD_replicate', if_pos hj] at hu; exact absurd hu (by decide)⟩
  have hun := un_range g (List.replicate g.as.length false)
  obtain ⟨q, e, hQ⟩ := loopC_or (f := euler_Trail_B2 g) (fun τ : PT => TI g st e0 τ.1 τ.2.1 τ.2.2.1 τ.2.2.2) (fun q => ∃ used done, q = .go (used, done, [], st) ∧ TI g st e0 used done [] st ∧ ∀ j, j < g.as.length → fF g j = st → used.getD j false = true) (fun τ : PT => MuT g τ.1 τ.2.2.1) (fun τ hτ => by
    obtain ⟨used, done, opn, at_⟩ := τ
    rcases trail_step hl hτ with ⟨u', d', o', a', e, p1, p2⟩ | ⟨e, rfl, rfl, p⟩
    · exact .inl ⟨(u', d', o', a'), e, p1, p2⟩
    · exact .inr (.inl ⟨_, e, used, done, rfl, hτ, p⟩)) (n := 1000000) (s := (List.replicate g.as.length false, [], [], st)) h0 (by
      show MuT g (List.replicate g.as.length false) [] < 1000000
      unfold MuT; simp only [List.length_nil]; omega)
  obtain ⟨used, done, rfl, h1, h2⟩ := hQ
  exact ⟨used, done, e, h1, h2⟩
end Go.Proofs.Ytblhoelmodbifaa
