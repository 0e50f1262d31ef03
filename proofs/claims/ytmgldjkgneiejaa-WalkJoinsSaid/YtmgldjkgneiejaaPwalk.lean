/- Package walk: what the functions answer. -/
import Derived.Test.YtmgldjkgneiejaaPlB
import Derived.Test.YtmgldjkgneiejaaPgraph
import Derived.Test.YtmgldjkgneiejaaGwalk
namespace Go.Proofs.Ytmgldjkgneiejaa
open Go Go.Proofs.Ytmgldjkgneiejaa.Sx
set_option linter.unusedVariables false
set_option linter.unusedSimpArgs false

/-- How many are not come to yet. -/
def unseen (far : List Int) : Nat := far.countP (fun x => decide (x < 0))
theorem unseen_set {far : List Int} {i : Nat} {v : Int} (hi : i < far.length) (h : far.getD i 0 < 0) (hv : 0 ≤ v) : unseen (far.set i v) + 1 = unseen far := by
  unfold unseen
  induction far generalizing i with
  | nil => simp at hi
  | cons x r ih =>
    cases i with
    | zero =>
      have hx : x < 0 := by simpa using h
      simp only [List.set_cons_zero, List.countP_cons]
      rw [if_neg (by simp; omega), if_pos (by simpa using hx)]
    | succ i =>
      have := ih (i := i) (by simpa using hi) (by simpa using h)
      simp only [List.set_cons_succ, List.countP_cons]
      omega
/-- The search on its way: far, by, and who waits. -/
structure BI (g : Graph) (s : Int) (far bys q : List Int) : Prop where
  l1 : far.length = g.n.toNat
  l2 : bys.length = g.n.toNat
  s0 : atI far s = 0
  lo : ∀ x, 0 ≤ x → x < g.n → -1 ≤ atI far x
  wait : ∀ x, x ∈ q → 0 ≤ x ∧ x < g.n ∧ 0 ≤ atI far x
  sorted : q.Pairwise (fun x y => atI far x ≤ atI far y)
  top : ∀ x, x ∈ q → ∀ y, 0 ≤ y → y < g.n → atI far y ≤ atI far x + 1
  way : ∀ x, 0 ≤ x → x < g.n → 0 ≤ atI far x → Way g.as s (atI far x).toNat x
  back : ∀ x, 0 ≤ x → x < g.n → 0 < atI far x → 0 ≤ atI bys x ∧ atI bys x < g.as.length ∧ (g.as.getD (atI bys x).toNat El.d).t = x ∧ atI far (g.as.getD (atI bys x).toNat El.d).f + 1 = atI far x
  done : ∀ x, 0 ≤ x → x < g.n → 0 ≤ atI far x → x ∉ q → ∀ a, a ∈ g.as → a.f = x → 0 ≤ atI far a.t ∧ atI far a.t ≤ atI far x + 1
  bd : ∀ x, 0 ≤ x → x < g.n → atI far x + unseen far < g.n
/-- .. within a round: at is the first that waits; so many arcs are seen. -/
structure BJ (g : Graph) (s at_ : Int) (r : List Int) (far bys q : List Int) (j m : Nat) : Prop where
  b : BI g s far bys q
  hd : ∃ new, q = at_ :: (r ++ new)
  seen : ∀ i, i < j → (g.as.getD i El.d).f = at_ → 0 ≤ atI far (g.as.getD i El.d).t ∧ atI far (g.as.getD i El.d).t ≤ atI far at_ + 1
  m : unseen far + q.length = m
theorem BJ.step {g : Graph} (hg : Ok g) {s at_ : Int} (hs0 : 0 ≤ s) (hs1 : s < g.n) {r far bys q : List Int} {j m : Nat} (h : BJ g s at_ r far bys q j m) (hj : j < g.as.length) (l32 : List Int) (hl : l32.getD 0 0 = at_) (hm : m ≤ 100) :
    ∃ far' bys' q', walk_search_B3 g l32 j (far, bys, q) = some (far', bys', q') ∧ BJ g s at_ r far' bys' q' (j + 1) m := by
  have ha := hg.arc _ (mem_getD (d := El.d) hj)
  have hmem : g.as.getD j El.d ∈ g.as := mem_getD hj
  have hn1 := hg.n1
  have hlen := hg.len
  unfold walk_search_B3
  obtain ⟨new, hq⟩ := h.hd
  have hat := h.b.wait at_ (by rw [hq]; simp)
  simp only [hl]
  by_cases h1 : (g.as.getD j El.d).f = at_
  · rw [if_pos h1, ck_some ⟨ha.t0, by have := h.b.l1; have := ha.t1; omega⟩]
    by_cases h2 : far.getD (g.as.getD j El.d).t.toNat 0 < 0
    · have h2' : atI far (g.as.getD j El.d).t < 0 := h2
      have e1 : atI far (g.as.getD j El.d).t = -1 := by have := h.b.lo _ ha.t0 ha.t1; omega
      have ebd := h.b.bd _ hat.1 hat.2.1
      have hmq := h.m
      rw [if_pos h2, ck_some ⟨hat.1, by have := h.b.l1; omega⟩, ck_some (inI_small (by have : far.getD at_.toNat 0 = atI far at_ := rfl; omega) (by have : far.getD at_.toNat 0 = atI far at_ := rfl; omega)),
        ck_some ⟨ha.t0, by have := h.b.l2; have := ha.t1; omega⟩, ck_some (by omega)]
      refine ⟨_, _, _, rfl, ?_⟩
      have ht0 := ha.t0
      have ht1 := ha.t1
      have htl : (g.as.getD j El.d).t < far.length := by have := h.b.l1; omega
      have htl2 : (g.as.getD j El.d).t < bys.length := by have := h.b.l2; omega
      generalize hE : g.as.getD j El.d = a at *
      have hF : ∀ x, 0 ≤ x → atI (far.set a.t.toNat (far.getD at_.toNat 0 + 1)) x = if x = a.t then atI far at_ + 1 else atI far x := fun x hx => atI_set ht0 htl hx
      have hB : ∀ x, 0 ≤ x → atI (bys.set a.t.toNat ((j : Nat) : Int)) x = if x = a.t then (j : Int) else atI bys x := fun x hx => atI_set ht0 htl2 hx
      have hne : ∀ x, 0 ≤ atI far x → x ≠ a.t := fun x hx e => by subst e; omega
      have hF' : ∀ x, 0 ≤ x → 0 ≤ atI far x → atI (far.set a.t.toNat (far.getD at_.toNat 0 + 1)) x = atI far x := fun x hx h => by rw [hF x hx, if_neg (hne x h)]
      have hu := unseen_set (far := far) (i := a.t.toNat) (v := far.getD at_.toNat 0 + 1) (by omega) h2 (by have : far.getD at_.toNat 0 = atI far at_ := rfl; omega)
      have hFat : atI (far.set a.t.toNat (far.getD at_.toNat 0 + 1)) at_ = atI far at_ := hF' _ hat.1 hat.2.2
      have hFt : atI (far.set a.t.toNat (far.getD at_.toNat 0 + 1)) a.t = atI far at_ + 1 := by rw [hF _ ht0, if_pos rfl]
      have hst : s ≠ a.t := fun e => by have := h.b.s0; rw [e] at this; omega
      refine ⟨⟨by simpa using h.b.l1, by simpa using h.b.l2, by rw [hF s hs0, if_neg hst]; exact h.b.s0, fun x hx hx2 => ?_, fun x hx => ?_, ?_, fun x hx y hy hy2 => ?_, fun x hx hx2 hp => ?_, fun x hx hx2 hp => ?_, fun x hx hx2 hp hq2 b hb hbf => ?_, fun x hx hx2 => ?_⟩, ⟨new ++ [a.t], by rw [hq]; simp⟩, fun i hi hif => ?_, ?_⟩
      · rw [hF x hx]; split
        · omega
        · exact h.b.lo x hx hx2
      · rcases List.mem_append.1 hx with hx | hx
        · have := h.b.wait x hx
          exact ⟨this.1, this.2.1, by rw [hF' x this.1 this.2.2]; exact this.2.2⟩
        · have : x = a.t := by simpa using hx
          subst this
          exact ⟨ht0, ht1, by rw [hFt]; omega⟩
      · refine List.pairwise_append.2 ⟨?_, List.pairwise_singleton _ _, fun x hx y hy => ?_⟩
        · refine List.Pairwise.imp_of_mem (fun {x y} hx hy hxy => ?_) h.b.sorted
          have q1 := h.b.wait x hx; have q2 := h.b.wait y hy
          rw [hF' x q1.1 q1.2.2, hF' y q2.1 q2.2.2]; exact hxy
        · have e2 : y = a.t := by simpa using hy
          subst e2
          have q1 := h.b.wait x hx
          rw [hF' x q1.1 q1.2.2, hFt]
          exact h.b.top at_ (by rw [hq]; simp) x q1.1 q1.2.1
      · have hmin : ∀ x, x ∈ q → atI far at_ ≤ atI far x := fun x hx => by
          rw [hq] at hx
          rcases List.mem_cons.1 hx with e | e
          · rw [e]; exact Int.le_refl _
          · have := h.b.sorted; rw [hq] at this; exact (List.pairwise_cons.1 this).1 x e
        have hxx : atI far at_ ≤ atI (far.set a.t.toNat (far.getD at_.toNat 0 + 1)) x := by
          rcases List.mem_append.1 hx with hx | hx
          · have q1 := h.b.wait x hx; rw [hF' x q1.1 q1.2.2]; exact hmin x hx
          · have : x = a.t := by simpa using hx
            subst this; rw [hFt]; omega
        rw [hF y hy]; split
        · omega
        · rcases List.mem_append.1 hx with hx | hx
          · have q1 := h.b.wait x hx; rw [hF' x q1.1 q1.2.2]; exact h.b.top x hx y hy hy2
          · have : x = a.t := by simpa using hx
            subst this; rw [hFt]
            have := h.b.top at_ (by rw [hq]; simp) y hy hy2
            omega
      · by_cases e : x = a.t
        · subst e
          rw [hFt]
          have w := h.b.way at_ hat.1 hat.2.1 hat.2.2
          rw [show (atI far at_ + 1).toNat = (atI far at_).toNat + 1 by omega]
          rw [← h1] at w ⊢
          exact .snoc w hmem
        · rw [hF x hx, if_neg e] at hp ⊢
          exact h.b.way x hx hx2 hp
      · by_cases e : x = a.t
        · subst e
          rw [hB _ hx, if_pos rfl, hFt]
          refine ⟨by omega, by omega, by rw [Int.toNat_natCast, hE], ?_⟩
          rw [Int.toNat_natCast, hE, h1, hFat]
        · rw [hF x hx, if_neg e] at hp
          rw [hB x hx, if_neg e, hF x hx, if_neg e]
          obtain ⟨b1, b2, b3, b4⟩ := h.b.back x hx hx2 hp
          have hbm := hg.arc _ (mem_getD (d := El.d) (show (atI bys x).toNat < g.as.length by omega))
          refine ⟨b1, b2, b3, ?_⟩
          rw [hF' _ hbm.f0 (by omega)]
          exact b4
      · have hxq : x ∉ q := fun hm => hq2 (List.mem_append_left _ hm)
        have hxt : x ≠ a.t := fun e => hq2 (List.mem_append_right _ (by simp [e]))
        rw [hF x hx, if_neg hxt] at hp ⊢
        have hbb := hg.arc b hb
        have := h.b.done x hx hx2 hp hxq b hb hbf
        rw [hF' b.t hbb.t0 this.1]
        exact this
      · rw [hF x hx]; split
        · have := h.b.bd at_ hat.1 hat.2.1; omega
        · have := h.b.bd x hx hx2; omega
      · rw [hFat]
        by_cases e : i = j
        · subst e
          rw [hE, hFt]; omega
        · have hi2 : i < j := by omega
          have := h.seen i hi2 hif
          have hbb := hg.arc _ (mem_getD (d := El.d) (show i < g.as.length by omega))
          rw [hF' _ hbb.t0 this.1]
          exact this
      · simp only [List.length_append, List.length_singleton]; omega
    · rw [if_neg h2]
      refine ⟨_, _, _, rfl, h.b, h.hd, fun i hi hif => ?_, h.m⟩
      by_cases e : i = j
      · subst e
        have : 0 ≤ atI far (g.as.getD i El.d).t := by
          have : atI far (g.as.getD i El.d).t = far.getD (g.as.getD i El.d).t.toNat 0 := rfl
          omega
        exact ⟨this, h.b.top at_ (by rw [hq]; simp) _ ha.t0 ha.t1⟩
      · exact h.seen i (by omega) hif
  · rw [if_neg h1]
    refine ⟨_, _, _, rfl, h.b, h.hd, fun i hi hif => ?_, h.m⟩
    by_cases e : i = j
    · subst e; exact absurd hif h1
    · exact h.seen i (by omega) hif
/-- What the search answers. -/
structure Searched (g : Graph) (s : Int) (far bys : List Int) : Prop where
  l1 : far.length = g.n.toNat
  l2 : bys.length = g.n.toNat
  s0 : atI far s = 0
  lo : ∀ x, 0 ≤ x → x < g.n → -1 ≤ atI far x
  way : ∀ x, 0 ≤ x → x < g.n → 0 ≤ atI far x → Way g.as s (atI far x).toNat x
  back : ∀ x, 0 ≤ x → x < g.n → 0 < atI far x → 0 ≤ atI bys x ∧ atI bys x < g.as.length ∧ (g.as.getD (atI bys x).toNat El.d).t = x ∧ atI far (g.as.getD (atI bys x).toNat El.d).f + 1 = atI far x
  done : ∀ a, a ∈ g.as → 0 ≤ atI far a.f → 0 ≤ atI far a.t ∧ atI far a.t ≤ atI far a.f + 1
  bd : ∀ x, 0 ≤ x → x < g.n → atI far x < g.n
theorem search_round {g : Graph} (hg : Ok g) {s : Int} (hs0 : 0 ≤ s) (hs1 : s < g.n) {far bys q : List Int} (h : BI g s far bys q) (hm : unseen far + q.length ≤ 100) (hq : q ≠ []) :
    ∃ far' bys' q', walk_search_B2 g (far, bys, q) = some (.go (far', bys', q')) ∧ BI g s far' bys' q' ∧ unseen far' + q'.length < unseen far + q.length := by
  unfold walk_search_B2
  obtain ⟨at_, r, rfl⟩ : ∃ a r, q = a :: r := by cases q with
    | nil => exact absurd rfl hq
    | cons a r => exact ⟨a, r, rfl⟩
  simp only [List.length_cons]
  rw [if_pos (by omega), ck_some (by omega)]
  obtain ⟨⟨far', bys', q'⟩, h1, h2⟩ := forN_inv (f := walk_search_B3 g (at_ :: r)) (fun j st => BJ g s at_ r st.1 st.2.1 st.2.2 j (unseen far + (at_ :: r).length)) (n := g.as.length) (k := 0) (s := (far, bys, at_ :: r))
    ⟨h, ⟨[], by simp⟩, fun i hi => absurd hi (by omega), rfl⟩ fun j st _ hj hst => by
      obtain ⟨far1, bys1, q1, e1, e2⟩ := BJ.step hg hs0 hs1 hst (by omega) (at_ :: r) (by simp) hm
      exact ⟨_, e1, e2⟩
  rw [h1, bind_some']
  simp only at h2 ⊢
  obtain ⟨new, hnew⟩ := h2.hd
  have hlen : q'.length = r.length + new.length + 1 := by rw [hnew]; simp
  rw [ck_some (by omega)]
  refine ⟨far', bys', _, rfl, ?_, ?_⟩
  · have e : subl q' 1 (q'.length - 1) = r ++ new := by
      rw [hnew]; simp only [subl, List.drop_succ_cons, List.drop_zero]; exact List.take_of_length_le (by simp)
    rw [e]
    have b := h2.b
    have hsub : ∀ x, x ∈ r ++ new → x ∈ q' := fun x hx => by rw [hnew]; exact List.mem_cons_of_mem _ hx
    refine ⟨b.l1, b.l2, b.s0, b.lo, fun x hx => b.wait x (hsub x hx), ?_, fun x hx => b.top x (hsub x hx), b.way, b.back, fun x hx hx2 hp hxq a ha haf => ?_, b.bd⟩
    · have := b.sorted; rw [hnew] at this; exact (List.pairwise_cons.1 this).2
    · by_cases e : x = at_
      · subst e
        obtain ⟨i, hi, hia⟩ := getD_of_mem (d := El.d) ha
        have := h2.seen i (by omega) (by rw [hia]; exact haf)
        rwa [hia] at this
      · exact b.done x hx hx2 hp (fun hm => by rw [hnew] at hm; rcases List.mem_cons.1 hm with h | h; exact e h; exact hxq h) a ha haf
  · have hmm := h2.m
    have e : (subl q' 1 (q'.length - 1)).length = q'.length - 1 := by rw [subl_length]; omega
    rw [e]
    simp only [List.length_cons] at hmm
    omega
theorem fill_loop {f : Nat → (List Int × List Int) → Option (List Int × List Int)} (c : Int) (hf : ∀ k l m, f k (l, m) = ck (k < l.length) (ck (k < m.length) (some (l.set k c, m.set k c)))) {n : Nat} :
    forN f n 0 (List.replicate n 0, List.replicate n 0) = some (List.replicate n c, List.replicate n c) := by
  obtain ⟨⟨l, m⟩, h1, h2, h3, h4⟩ := forN_inv (f := f) (fun j st => st.1.length = n ∧ st.2.length = n ∧ ∀ i, i < j → st.1.getD i 0 = c ∧ st.2.getD i 0 = c) (n := n) (k := 0) (s := (List.replicate n 0, List.replicate n 0)) ⟨by simp, by simp, fun i h => absurd h (by omega)⟩ fun j st _ hj ⟨e1, e2, e3⟩ => by
    refine ⟨(st.1.set j c, st.2.set j c), ?_, by simpa using e1, by simpa using e2, fun i hi => ?_⟩
    · rw [show st = (st.1, st.2) from rfl, hf, ck_some (by omega), ck_some (by omega)]
    · simp only [getD_set']
      by_cases h : i = j
      · rw [if_pos ⟨h, by omega⟩, if_pos ⟨h, by omega⟩]; exact ⟨rfl, rfl⟩
      · rw [if_neg (fun x => h x.1), if_neg (fun x => h x.1)]; exact e3 i (by omega)
  rw [h1]
  have ex : ∀ l : List Int, l.length = n → (∀ i, i < n → l.getD i 0 = c) → l = List.replicate n c := fun l hl hh => eq_of_getD (d := 0) (by simpa using hl) fun i hi => by
    rw [hh i (by omega), getD_replicate', if_pos (by omega)]
  rw [ex l h2 fun i hi => (h4 i (by omega)).1, ex m h3 fun i hi => (h4 i (by omega)).2]
theorem search_ok {g : Graph} (hg : Ok g) {s : Int} (hs0 : 0 ≤ s) (hs1 : s < g.n) : ∃ far bys, walk_search_F g s = some (far, bys, 0) ∧ Searched g s far bys := by
  unfold walk_search_F
  have hn0 := hg.n0; have hn1 := hg.n1
  rw [checkLong_ok hg, bind_some', if_neg (by simp), if_neg (by omega), if_neg (by omega), ck_some ⟨by omega, by omega⟩, fill_loop (-1) (fun k l m => rfl), bind_some']
  simp only [List.length_replicate]
  rw [ck_some ⟨hs0, by omega⟩]
  have hF : ∀ x, 0 ≤ x → x < g.n → atI ((List.replicate g.n.toNat (-1)).set s.toNat 0) x = if x = s then 0 else -1 := fun x hx hx2 => by
    rw [atI_set hs0 (by simp; omega) hx]
    split
    · rfl
    · unfold atI; rw [getD_replicate', if_pos (by omega)]
  have hun : unseen ((List.replicate g.n.toNat (-1)).set s.toNat 0) + 1 = g.n.toNat := by
    rw [unseen_set (by simp; omega) (by rw [getD_replicate', if_pos (by omega)]; omega) (by omega)]
    unfold unseen; rw [List.countP_replicate]; simp
  have h0 : BI g s ((List.replicate g.n.toNat (-1)).set s.toNat 0) (List.replicate g.n.toNat (-1)) [s] := by
    refine ⟨by simp, by simp, by rw [hF s hs0 hs1, if_pos rfl], fun x hx hx2 => by rw [hF x hx hx2]; split <;> omega, fun x hx => ?_, List.pairwise_singleton _ _, fun x hx y hy hy2 => ?_, fun x hx hx2 hp => ?_, fun x hx hx2 hp => ?_, fun x hx hx2 hp hxq => ?_, fun x hx hx2 => ?_⟩
    · have : x = s := by simpa using hx
      subst this; exact ⟨hs0, hs1, by rw [hF _ hs0 hs1, if_pos rfl]; omega⟩
    · have : x = s := by simpa using hx
      subst this; rw [hF _ hs0 hs1, hF y hy hy2, if_pos rfl]; split <;> omega
    · rw [hF x hx hx2] at hp ⊢
      by_cases e : x = s
      · subst e; rw [if_pos rfl]; exact .nil
      · rw [if_neg e] at hp; omega
    · rw [hF x hx hx2] at hp; split at hp <;> omega
    · rw [hF x hx hx2] at hp
      by_cases e : x = s
      · exact absurd (by simp [e]) hxq
      · rw [if_neg e] at hp; omega
    · rw [hF x hx hx2]; split <;> omega
  obtain ⟨q, h1, h2⟩ := loopC_or (f := walk_search_B2 g) (fun st => BI g s st.1 st.2.1 st.2.2 ∧ unseen st.1 + st.2.2.length ≤ 100) (fun q => ∃ far bys, q = .go (far, bys, []) ∧ BI g s far bys []) (fun st => unseen st.1 + st.2.2.length) (fun st ⟨hb, hm⟩ => by
    obtain ⟨far, bys, q⟩ := st
    by_cases hq : q = []
    · subst hq
      exact .inr (.inl ⟨(far, bys, []), by unfold walk_search_B2; simp, far, bys, rfl, hb⟩)
    · obtain ⟨far', bys', q', e1, e2, e3⟩ := search_round hg hs0 hs1 hb hm hq
      exact .inl ⟨(far', bys', q'), e1, ⟨e2, by simp only at hm e3 ⊢; omega⟩, e3⟩) (n := 1000000) (s := ((List.replicate g.n.toNat (-1)).set s.toNat 0, List.replicate g.n.toNat (-1), [s])) ⟨h0, by simp only [List.length_singleton]; omega⟩ (by simp only [List.length_singleton]; omega)
  obtain ⟨far, bys, rfl, hb⟩ := h2
  rw [h1]
  refine ⟨far, bys, rfl, hb.l1, hb.l2, hb.s0, hb.lo, hb.way, hb.back, fun a ha hp => ?_, fun x hx hx2 => by have := hb.bd x hx hx2; omega⟩
  have haa := hg.arc a ha
  exact hb.done a.f haa.f0 haa.f1 hp (by simp) a ha rfl
theorem search_bad {g : Graph} {s : Int} (h : checkF g (-10000) ≠ 0) : walk_search_F g s = some ([], [], checkF g (-10000)) := by
  unfold walk_search_F; rw [checkLong_eq, bind_some', if_pos h]
theorem search_no {g : Graph} (hg : Ok g) {s : Int} (h : s < 0 ∨ g.n ≤ s) : walk_search_F g s = some ([], [], 4) := by
  unfold walk_search_F
  rw [checkLong_ok hg, bind_some', if_neg (by simp)]
  by_cases h1 : s < 0
  · rw [if_pos h1]
  · rw [if_neg h1, if_pos (by omega)]
/-- All three ways that a search may end. -/
theorem search_cases (g : Graph) (s : Int) : (∃ e, e ≠ 0 ∧ walk_search_F g s = some ([], [], e) ∧ (e = checkF g (-10000) ∨ Ok g)) ∨ (Ok g ∧ 0 ≤ s ∧ s < g.n ∧ ∃ far bys, walk_search_F g s = some (far, bys, 0) ∧ Searched g s far bys) := by
  by_cases h : checkF g (-10000) = 0
  · have hg := (checkF_ok g _).1 h
    by_cases hs : s < 0 ∨ g.n ≤ s
    · exact .inl ⟨4, by omega, search_no hg hs, .inr hg⟩
    · obtain ⟨far, bys, h1, h2⟩ := search_ok hg (s := s) (by omega) (by omega)
      exact .inr ⟨hg, by omega, by omega, far, bys, h1, h2⟩
  · exact .inl ⟨_, h, search_bad h, .inl rfl⟩
theorem far_eq {g : Graph} {s : Int} {far bys : List Int} {e : Int} (h : walk_search_F g s = some (far, bys, e)) : walk_Far_F g s = some (far, e) := by
  unfold walk_Far_F; rw [h]; rfl
theorem Searched.le {g : Graph} {s : Int} {far bys : List Int} (h : Searched g s far bys) {k : Nat} {x : Int} (w : Way g.as s k x) : 0 ≤ atI far x ∧ atI far x ≤ k := by
  induction w with
  | nil => have := h.s0; omega
  | snoc w ha ih =>
    have := h.done _ ha ih.1
    omega
end Go.Proofs.Ytmgldjkgneiejaa
