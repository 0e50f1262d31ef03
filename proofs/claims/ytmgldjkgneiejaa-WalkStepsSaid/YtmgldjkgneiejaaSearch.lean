/- What the functions of wsearch compute, by walks through their text. -/
import Derived.Test.YtmgldjkgneiejaaTys
import Derived.Test.YtmgldjkgneiejaaDat
import Derived.Test.YtmgldjkgneiejaaGraph
import Derived.Test.YtmgldjkgneiejaaFrom
namespace Go.Proofs.Ytmgldjkgneiejaa
open Go Go.Proofs.Ytmgldjkgneiejaa.Sx
set_option linter.unusedVariables false
set_option linter.unusedSimpArgs false

/-- far, by, todo -/
abbrev SS := List Int × List Int × List Int
def seeArc (at_ : Int) (k : Nat) (s : SS) (a : Arc) : SS :=
  if a.f = at_ ∧ s.1.getD a.t.toNat 0 < 0 then (s.1.set a.t.toNat (s.1.getD at_.toNat 0 + 1), s.2.1.set a.t.toNat k, s.2.2 ++ [a.t]) else s
def seeAll (at_ : Int) : List Arc → Nat → SS → SS
  | [], _, s => s
  | a :: r, k, s => seeAll at_ r (k + 1) (seeArc at_ k s a)
def bfs (l : List Arc) : Nat → SS → List Int × List Int
  | 0, s => (s.1, s.2.1)
  | n + 1, (far, by_, q) => match q with
    | [] => (far, by_)
    | at_ :: q => bfs l n (seeAll at_ l 0 (far, by_, q))
def none1 (g : Graph) : List Int := List.replicate g.n.toNat (-1)
def searchF (g : Graph) (s : Int) : Int × List Int × List Int :=
  if checkF g (-10000) ≠ 0 then (checkF g (-10000), [], []) else if s < 0 ∨ g.n ≤ s then (4, [], []) else
    (0, bfs g.as (g.n.toNat + 1) ((none1 g).set s.toNat 0, none1 g, [s]))
/-- how many are not come to yet -/
def unseen (far : List Int) : Nat := far.countP (fun x => decide (x < 0))
theorem unseen_set {far : List Int} {i : Nat} {v : Int} (hi : i < far.length) (h : far.getD i 0 < 0) (hv : 0 ≤ v) : unseen (far.set i v) + 1 = unseen far := by
  unfold unseen
  induction far generalizing i with
  | nil => simp at hi
  | cons x r ih =>
    cases i with
    | zero =>
      have hx : x < 0 := by simpa using h
      simp only [List.set_cons_zero, List.countP_cons]
      rw [if_neg (by simp; omega), if_pos (by simpa using hx)]
    | succ i =>
      have := ih (i := i) (by simpa using hi) (by simpa using h)
      simp only [List.set_cons_succ, List.countP_cons]
      omega
/-- what a round keeps: sizes, nodes in range, as many to come as before -/
structure SI (N : Nat) (m : Nat) (s : SS) : Prop where
  l1 : s.1.length = N
  l2 : s.2.1.length = N
  q : ∀ x, x ∈ s.2.2 → 0 ≤ x ∧ x < N ∧ 0 ≤ s.1.getD x.toNat 0
  m : unseen s.1 + s.2.2.length ≤ m
  bd : ∀ i, s.1.getD i 0 + unseen s.1 < N
theorem SI.see {N m : Nat} {s : SS} {at_ : Int} {k : Nat} {a : Arc} (h : SI N m s) (hat : 0 ≤ s.1.getD at_.toNat 0) (h0 : 0 ≤ a.t) (h1 : a.t < N) : SI N m (seeArc at_ k s a) ∧ 0 ≤ (seeArc at_ k s a).1.getD at_.toNat 0 := by
  unfold seeArc
  by_cases hc : a.f = at_ ∧ s.1.getD a.t.toNat 0 < 0
  · rw [if_pos hc]
    have hl := h.l1
    have hlt : a.t.toNat < s.1.length := by omega
    have hu := unseen_set (v := s.1.getD at_.toNat 0 + 1) hlt hc.2 (by omega)
    have hm := h.m
    have keep : ∀ i, 0 ≤ s.1.getD i 0 → 0 ≤ (s.1.set a.t.toNat (s.1.getD at_.toNat 0 + 1)).getD i 0 := fun i hi => by
      rw [getD_set]; split <;> omega
    refine ⟨⟨by simpa using h.l1, by simpa using h.l2, fun x hx => ?_, by simp only [List.length_append, List.length_singleton]; omega, fun i => ?_⟩, keep _ hat⟩
    · rcases List.mem_append.1 hx with hx | hx
      · have := h.q x hx
        exact ⟨this.1, this.2.1, keep _ this.2.2⟩
      · have e : x = a.t := by simpa using hx
        subst e
        exact ⟨h0, h1, by rw [getD_set, if_pos ⟨rfl, hlt⟩]; omega⟩
    · simp only [getD_set]
      have h1 := h.bd i
      have h2 := h.bd at_.toNat
      split <;> omega
  · rw [if_neg hc]; exact ⟨h, hat⟩
theorem SI.pop {N m : Nat} {far by_ q : List Int} {x : Int} (h : SI N (m + 1) (far, by_, x :: q)) : SI N m (far, by_, q) ∧ 0 ≤ x ∧ x < N ∧ 0 ≤ far.getD x.toNat 0 := by
  have h1 := h.q x (List.mem_cons_self ..)
  have h2 := h.m
  simp only [List.length_cons] at h2
  exact ⟨⟨h.l1, h.l2, fun y hy => h.q y (List.mem_cons_of_mem _ hy), by simp only; omega, h.bd⟩, h1⟩
theorem seeAll_drop {l : List Arc} {at_ : Int} {k : Nat} {s : SS} (hk : k < l.length) : seeAll at_ (l.drop k) k s = seeAll at_ (l.drop (k + 1)) (k + 1) (seeArc at_ k s (l.getD k ⟨0, 0, 0⟩)) := by
  rw [drop_get hk]; rfl
theorem seeArc_yes {at_ : Int} {k : Nat} {a : Arc} {far by_ q : List Int} (h1 : a.f = at_) (h2 : far.getD a.t.toNat 0 < 0) : seeArc at_ k (far, by_, q) a = (far.set a.t.toNat (far.getD at_.toNat 0 + 1), by_.set a.t.toNat k, q ++ [a.t]) := by
  rw [seeArc, if_pos ⟨h1, h2⟩]
theorem seeArc_no {at_ : Int} {k : Nat} {a : Arc} {s : SS} (h : ¬ (a.f = at_ ∧ s.1.getD a.t.toNat 0 < 0)) : seeArc at_ k s a = s := by rw [seeArc, if_neg h]
theorem unseen_none (n : Nat) : unseen (List.replicate n (-1)) = n := by
  unfold unseen
  rw [List.countP_replicate]
  simp
theorem SI.init {g : Graph} {s : Int} (h0 : 0 ≤ s) (h1 : s < g.n) : SI g.n.toNat g.n.toNat ((none1 g).set s.toNat 0, none1 g, [s]) := by
  have hl : (none1 g).length = g.n.toNat := by simp [none1]
  have hs : s.toNat < (none1 g).length := by omega
  have hn : (none1 g).getD s.toNat 0 = -1 := by rw [none1, List.getD_eq_getElem?_getD, List.getElem?_replicate, if_pos (by omega)]; rfl
  have hu := unseen_set (v := 0) hs (by omega) (Int.le_refl _)
  have hu2 : unseen (none1 g) = g.n.toNat := unseen_none _
  refine ⟨by simp [none1], hl, fun x hx => ?_, by simp only [List.length_singleton]; omega, fun i => ?_⟩
  · have e : x = s := by simpa using hx
    subst e
    exact ⟨h0, by omega, by rw [getD_set, if_pos ⟨rfl, hs⟩]; omega⟩
  · simp only [getD_set]
    have : (none1 g).getD i 0 ≤ 0 := by
      rw [none1, List.getD_eq_getElem?_getD, List.getElem?_replicate]; split <;> simp
    split <;> omega
def SearchP (int : TypeId) (g : Graph) (s : Int) (d : D) (H : List HL) : Prop :=
  ∃ β γ, d = .tp 3 (nth [.own β 1 0 (searchF g s).2.1.length, .own γ 1 0 (searchF g s).2.2.length, .i (searchF g s).1]) ∧ H = [.one β int 1 (ints (searchF g s).2.1), .one γ int 1 (ints (searchF g s).2.2)]
def FarP (int : TypeId) (g : Graph) (s : Int) (d : D) (H : List HL) : Prop :=
  ∃ β, d = .tp 2 (nth [.own β 1 0 (searchF g s).2.1.length, .i (searchF g s).1]) ∧ H = [.one β int 1 (ints (searchF g s).2.1)]
theorem bfs_len {l : List Arc} : ∀ (n : Nat) {s : SS}, (bfs l n s).1.length = s.1.length ∧ (bfs l n s).2.length = s.2.1.length := by
  have h1 : ∀ (at_ : Int) (l : List Arc) (k : Nat) (s : SS), (seeAll at_ l k s).1.length = s.1.length ∧ (seeAll at_ l k s).2.1.length = s.2.1.length := by
    intro at_ l
    induction l with
    | nil => intro k s; exact ⟨rfl, rfl⟩
    | cons a l ih =>
      intro k s
      have h := ih (k + 1) (seeArc at_ k s a)
      have h2 : (seeArc at_ k s a).1.length = s.1.length ∧ (seeArc at_ k s a).2.1.length = s.2.1.length := by
        unfold seeArc; split <;> simp
      exact ⟨h.1.trans h2.1, h.2.trans h2.2⟩
  intro n
  induction n with
  | zero => intro s; exact ⟨rfl, rfl⟩
  | succ n ih =>
    rintro ⟨far, by_, q⟩
    cases q with
    | nil => exact ⟨rfl, rfl⟩
    | cons x q =>
      have h := ih (s := seeAll x l 0 (far, by_, q))
      have h2 := h1 x l 0 (far, by_, q)
      exact ⟨h.1.trans h2.1, h.2.trans h2.2⟩
theorem searchF_len {g : Graph} {s : Int} (h1 : ¬ checkF g (-10000) ≠ 0) (h0 : ¬ (s < 0 ∨ g.n ≤ s)) : (searchF g s).2.1.length = g.n.toNat ∧ (searchF g s).2.2.length = g.n.toNat := by
  rw [searchF, if_neg h1, if_neg h0]
  have := bfs_len (l := g.as) (g.n.toNat + 1) (s := ((none1 g).set s.toNat 0, none1 g, [s]))
  simpa [none1] using this
theorem set_none {n k : Nat} (hk : k < n) : (List.replicate k (-1 : Int) ++ List.replicate (n - k) 0).set k (-1) = List.replicate (k + 1) (-1) ++ List.replicate (n - (k + 1)) 0 := by
  rw [List.set_append_right _ _ (by simp)]
  rw [show n - k = (n - (k + 1)) + 1 by omega, List.replicate_succ]
  simp [List.replicate_succ']
set_option maxRecDepth 100000 in
set_option maxHeartbeats 4000000 in
theorem search_spec (g : Graph) (s : Int) (hs : InI s) : Does Try.prog 39 [graphD g, .i s] [] (SearchP 3 g s) := by
  refine Does.intro Try.func39 rfl Try.ntmps39 rfl fun w0 I0 => ?_
  refine GoC.seq ?_
  refine GoC.region ?_
  refine GoO.effB (ef_boxAg rfl rfl) (fun β1 => ?_)
  refine GoO.pure (ps_assign rfl rfl) ?_
  refine GoO.pure (ps_assign rfl rfl) ?_
  refine GoO.pure (ps_assign rfl rfl) ?_
  refine GoO.nil ?_
  refine GoK.code ?_
  refine GoC.seq ?_
  refine GoC.seq ?_
  refine GoC.region ?_
  first | refine GoO.pure (ps_loadAg rfl (by first | exact At.p0 | exact At.p1 | exact At.p2 | exact At.p3 | exact At.p4 | exact At.p5 | exact At.p6 | exact At.p7 | exact At.p8 | exact At.p9 | exact At.p10 | exact At.p11 | exact At.p12 | exact At.p13) (by first | exact At.p0 | exact At.p1 | exact At.p2 | exact At.p3 | exact At.p4 | exact At.p5 | exact At.p6 | exact At.p7 | exact At.p8 | exact At.p9 | exact At.p10 | exact At.p11 | exact At.p12 | exact At.p13) ?_ rfl rfl) ?_ | refine GoO.pure (ps_loadAgR rfl ?_ rfl rfl) ?_
  · first | exact Nat.zero_lt_one | assumption | omega | exact InI.of (by omega) (by omega) | (simp only [ints_len, bools_len, st1_len, arcs_len, lits_len, List.length_set, List.length_append, List.length_cons, List.length_nil, List.length_replicate]; omega)
  refine GoO.effC (ef_call rfl (by first | exact (Take.nil _) | exact (Take.cons _ _ _ _ _ (by first | exact Rem.p0 | exact Rem.p1 | exact Rem.p2 | exact Rem.p3 | exact Rem.p4 | exact Rem.p5 | exact Rem.p6 | exact Rem.p7 | exact Rem.p8 | exact Rem.p9 | exact Rem.p10 | exact Rem.p11 | exact Rem.p12 | exact Rem.p13) (Take.nil _)) | exact (Take.cons _ _ _ _ _ (by first | exact Rem.p0 | exact Rem.p1 | exact Rem.p2 | exact Rem.p3 | exact Rem.p4 | exact Rem.p5 | exact Rem.p6 | exact Rem.p7 | exact Rem.p8 | exact Rem.p9 | exact Rem.p10 | exact Rem.p11 | exact Rem.p12 | exact Rem.p13) (Take.cons _ _ _ _ _ (by first | exact Rem.p0 | exact Rem.p1 | exact Rem.p2 | exact Rem.p3 | exact Rem.p4 | exact Rem.p5 | exact Rem.p6 | exact Rem.p7 | exact Rem.p8 | exact Rem.p9 | exact Rem.p10 | exact Rem.p11 | exact Rem.p12 | exact Rem.p13) (Take.nil _))) | exact (Take.cons _ _ _ _ _ (by first | exact Rem.p0 | exact Rem.p1 | exact Rem.p2 | exact Rem.p3 | exact Rem.p4 | exact Rem.p5 | exact Rem.p6 | exact Rem.p7 | exact Rem.p8 | exact Rem.p9 | exact Rem.p10 | exact Rem.p11 | exact Rem.p12 | exact Rem.p13) (Take.cons _ _ _ _ _ (by first | exact Rem.p0 | exact Rem.p1 | exact Rem.p2 | exact Rem.p3 | exact Rem.p4 | exact Rem.p5 | exact Rem.p6 | exact Rem.p7 | exact Rem.p8 | exact Rem.p9 | exact Rem.p10 | exact Rem.p11 | exact Rem.p12 | exact Rem.p13) (Take.cons _ _ _ _ _ (by first | exact Rem.p0 | exact Rem.p1 | exact Rem.p2 | exact Rem.p3 | exact Rem.p4 | exact Rem.p5 | exact Rem.p6 | exact Rem.p7 | exact Rem.p8 | exact Rem.p9 | exact Rem.p10 | exact Rem.p11 | exact Rem.p12 | exact Rem.p13) (Take.nil _)))) | exact (Take.cons _ _ _ _ _ (by first | exact Rem.p0 | exact Rem.p1 | exact Rem.p2 | exact Rem.p3 | exact Rem.p4 | exact Rem.p5 | exact Rem.p6 | exact Rem.p7 | exact Rem.p8 | exact Rem.p9 | exact Rem.p10 | exact Rem.p11 | exact Rem.p12 | exact Rem.p13) (Take.cons _ _ _ _ _ (by first | exact Rem.p0 | exact Rem.p1 | exact Rem.p2 | exact Rem.p3 | exact Rem.p4 | exact Rem.p5 | exact Rem.p6 | exact Rem.p7 | exact Rem.p8 | exact Rem.p9 | exact Rem.p10 | exact Rem.p11 | exact Rem.p12 | exact Rem.p13) (Take.cons _ _ _ _ _ (by first | exact Rem.p0 | exact Rem.p1 | exact Rem.p2 | exact Rem.p3 | exact Rem.p4 | exact Rem.p5 | exact Rem.p6 | exact Rem.p7 | exact Rem.p8 | exact Rem.p9 | exact Rem.p10 | exact Rem.p11 | exact Rem.p12 | exact Rem.p13) (Take.cons _ _ _ _ _ (by first | exact Rem.p0 | exact Rem.p1 | exact Rem.p2 | exact Rem.p3 | exact Rem.p4 | exact Rem.p5 | exact Rem.p6 | exact Rem.p7 | exact Rem.p8 | exact Rem.p9 | exact Rem.p10 | exact Rem.p11 | exact Rem.p12 | exact Rem.p13) (Take.nil _)))))) (by exact LendL.cons (by first | exact Lend.refl _ _ | exact Lend.all' (by first | exact At.p0 | exact At.p1 | exact At.p2 | exact At.p3 | exact At.p4 | exact At.p5 | exact At.p6 | exact At.p7 | exact At.p8 | exact At.p9 | exact At.p10 | exact At.p11 | exact At.p12 | exact At.p13) (by rfl) (by rfl) | exact Lend.nil | exact Lend.e0 | exact Lend.agL (by repeat (first | exact LendL.nil | refine LendL.cons (by first | exact Lend.refl _ _ | exact Lend.all' (by first | exact At.p0 | exact At.p1 | exact At.p2 | exact At.p3 | exact At.p4 | exact At.p5 | exact At.p6 | exact At.p7 | exact At.p8 | exact At.p9 | exact At.p10 | exact At.p11 | exact At.p12 | exact At.p13) (by rfl) (by rfl) | exact Lend.nil) ?_))) (LendL.nil)) (checkLong_spec g) rfl) (fun r H hp => ?_)
  obtain ⟨rfl, rfl⟩ := hp
  refine GoO.pure (ps_assign rfl rfl) ?_
  refine GoO.nil ?_
  refine GoK.code ?_
  refine GoC.seq ?_
  refine GoC.region ?_
  refine GoO.pure (ps_move rfl rfl) ?_
  first | refine GoO.pure (ps_neq rfl rfl rfl) ?_ | refine GoO.pure (ps_neqB rfl rfl rfl) ?_ | refine GoO.pure (ps_neqA rfl rfl rfl rfl) ?_
  refine GoO.nil ?_
  refine GoK.code ?_
  first | refine GoC.condD rfl (fun h10 => ?_) (fun h10 => ?_) | refine GoC.cond rfl (fun h10 => ?_) (fun h10 => ?_)
  · skip
    first | have hg := (checkF_ok g).1 (Classical.not_not.1 ‹¬ checkF g (-10000) ≠ 0›) | skip
    first | have hn0 := hg.n0 | skip
    first | have hn1 := hg.n1 | skip
    first | have hal := hg.len | skip
    refine GoC.seq ?_
    refine GoC.region ?_
    refine GoO.pure (ps_move rfl rfl) ?_
    refine GoO.pure (ps_assign rfl rfl) ?_
    refine GoO.pure (ps_assign rfl rfl) ?_
    refine GoO.pure (ps_assign rfl rfl) ?_
    refine GoO.nil ?_
    refine GoK.code ?_
    refine GoC.le (le_nil 4 3 1 (ints []) rfl rfl) ?_
    refine GoC.le (le_nil 5 3 1 (ints []) rfl rfl) ?_
    refine GoC.ret3 (H' := [.one ⟨0, 0, 0⟩ 3 1 (ints []), .one ⟨0, 0, 0⟩ 3 1 (ints [])]) Try.results39 (ResD.tmp rfl) (ResD.tmp rfl) (ResD.tmp rfl) (by exact (Take.cons _ _ _ _ _ (by first | exact Rem.p0 | exact Rem.p1 | exact Rem.p2 | exact Rem.p3 | exact Rem.p4 | exact Rem.p5 | exact Rem.p6 | exact Rem.p7 | exact Rem.p8 | exact Rem.p9 | exact Rem.p10 | exact Rem.p11 | exact Rem.p12 | exact Rem.p13) (Take.cons _ _ _ _ _ (by first | exact Rem.p0 | exact Rem.p1 | exact Rem.p2 | exact Rem.p3 | exact Rem.p4 | exact Rem.p5 | exact Rem.p6 | exact Rem.p7 | exact Rem.p8 | exact Rem.p9 | exact Rem.p10 | exact Rem.p11 | exact Rem.p12 | exact Rem.p13) (Take.nil _)))) ?_
    · exact ⟨_, _, by rw [searchF, if_pos (by assumption)]; rfl, by rw [searchF, if_pos (by assumption)]⟩
  · skip
    first | have hg := (checkF_ok g).1 (Classical.not_not.1 ‹¬ checkF g (-10000) ≠ 0›) | skip
    first | have hn0 := hg.n0 | skip
    first | have hn1 := hg.n1 | skip
    first | have hal := hg.len | skip
    refine GoC.skip ?_
    refine GoK.code ?_
    refine GoC.seq ?_
    refine GoC.seq ?_
    refine GoC.region ?_
    refine GoO.pure (ps_move rfl rfl) ?_
    refine GoO.pure (ps_lss rfl rfl rfl) ?_
    refine GoO.pure (ps_move rfl rfl) ?_
    first | refine GoO.guardE rfl rfl rfl rfl (fun h18 => ?_) (fun h18 => ?_) | refine GoO.guard rfl rfl rfl rfl (fun h18 => ?_) (fun h18 => ?_)
    · skip
      refine GoO.pure (ps_move rfl rfl) ?_
      refine GoO.guardT rfl rfl rfl ?_
      first | refine GoO.pure (ps_fieldAddr rfl rfl) ?_ | refine GoO.pure (ps_fieldAddrR rfl rfl) ?_
      refine GoO.guardT rfl rfl rfl ?_
      first | refine GoO.pure (ps_load rfl (by first | exact At.p0 | exact At.p1 | exact At.p2 | exact At.p3 | exact At.p4 | exact At.p5 | exact At.p6 | exact At.p7 | exact At.p8 | exact At.p9 | exact At.p10 | exact At.p11 | exact At.p12 | exact At.p13) (by first | exact At.p0 | exact At.p1 | exact At.p2 | exact At.p3 | exact At.p4 | exact At.p5 | exact At.p6 | exact At.p7 | exact At.p8 | exact At.p9 | exact At.p10 | exact At.p11 | exact At.p12 | exact At.p13) ?_ rfl rfl) ?_ | refine GoO.pure (ps_loadR rfl ?_ rfl rfl) ?_
      · first | exact Nat.zero_lt_one | assumption | omega | exact InI.of (by omega) (by omega) | (simp only [ints_len, bools_len, st1_len, arcs_len, lits_len, List.length_set, List.length_append, List.length_cons, List.length_nil, List.length_replicate]; omega)
      refine GoO.guardT rfl rfl rfl ?_
      refine GoO.pure (ps_geq rfl rfl rfl) ?_
      refine GoO.pure (ps_pickF rfl rfl rfl) ?_
      refine GoO.nil ?_
      refine GoK.code ?_
      first | refine GoC.condD rfl (fun h24 => ?_) (fun h24 => ?_) | refine GoC.cond rfl (fun h24 => ?_) (fun h24 => ?_)
      · skip
        refine GoC.seq ?_
        refine GoC.region ?_
        refine GoO.pure (ps_assign rfl rfl) ?_
        refine GoO.pure (ps_assign rfl rfl) ?_
        refine GoO.pure (ps_assign rfl rfl) ?_
        refine GoO.nil ?_
        refine GoK.code ?_
        refine GoC.le (le_nil 4 3 1 (ints []) rfl rfl) ?_
        refine GoC.le (le_nil 5 3 1 (ints []) rfl rfl) ?_
        refine GoC.ret3 (H' := [.one ⟨0, 0, 0⟩ 3 1 (ints []), .one ⟨0, 0, 0⟩ 3 1 (ints [])]) Try.results39 (ResD.tmp rfl) (ResD.tmp rfl) (ResD.tmp rfl) (by exact (Take.cons _ _ _ _ _ (by first | exact Rem.p0 | exact Rem.p1 | exact Rem.p2 | exact Rem.p3 | exact Rem.p4 | exact Rem.p5 | exact Rem.p6 | exact Rem.p7 | exact Rem.p8 | exact Rem.p9 | exact Rem.p10 | exact Rem.p11 | exact Rem.p12 | exact Rem.p13) (Take.cons _ _ _ _ _ (by first | exact Rem.p0 | exact Rem.p1 | exact Rem.p2 | exact Rem.p3 | exact Rem.p4 | exact Rem.p5 | exact Rem.p6 | exact Rem.p7 | exact Rem.p8 | exact Rem.p9 | exact Rem.p10 | exact Rem.p11 | exact Rem.p12 | exact Rem.p13) (Take.nil _)))) ?_
        · exact ⟨_, _, by rw [searchF, if_neg (by assumption), if_pos (by omega)]; rfl, by rw [searchF, if_neg (by assumption), if_pos (by omega)]⟩
      · skip
        refine GoC.skip ?_
        refine GoK.code ?_
        refine GoC.seq ?_
        refine GoC.drawA (.q 0 (.q 1 (.q 3 (.q 4 (.two 2 5 (.q 6 (.one 5 (.q 7 (.done)))) (.one 2 (.q 6 (.q 7 (.done))))))))) follows (by kernel_rfl) ?_
        first | refine GoP.qN rfl (ps_fieldAddr rfl rfl) ?_ | refine GoP.qN rfl (ps_fieldAddrR rfl rfl) ?_
        first | refine GoP.qN rfl (ps_load rfl (by first | exact At.p0 | exact At.p1 | exact At.p2 | exact At.p3 | exact At.p4 | exact At.p5 | exact At.p6 | exact At.p7 | exact At.p8 | exact At.p9 | exact At.p10 | exact At.p11 | exact At.p12 | exact At.p13) (by first | exact At.p0 | exact At.p1 | exact At.p2 | exact At.p3 | exact At.p4 | exact At.p5 | exact At.p6 | exact At.p7 | exact At.p8 | exact At.p9 | exact At.p10 | exact At.p11 | exact At.p12 | exact At.p13) ?_ rfl rfl) ?_ | refine GoP.qN rfl (ps_loadR rfl ?_ rfl rfl) ?_
        · first | exact Nat.zero_lt_one | assumption | omega | exact InI.of (by omega) (by omega) | (simp only [ints_len, bools_len, st1_len, arcs_len, lits_len, List.length_set, List.length_append, List.length_cons, List.length_nil, List.length_replicate]; omega)
        first | refine GoP.qN rfl (ps_fieldAddr rfl rfl) ?_ | refine GoP.qN rfl (ps_fieldAddrR rfl rfl) ?_
        first | refine GoP.qN rfl (ps_load rfl (by first | exact At.p0 | exact At.p1 | exact At.p2 | exact At.p3 | exact At.p4 | exact At.p5 | exact At.p6 | exact At.p7 | exact At.p8 | exact At.p9 | exact At.p10 | exact At.p11 | exact At.p12 | exact At.p13) (by first | exact At.p0 | exact At.p1 | exact At.p2 | exact At.p3 | exact At.p4 | exact At.p5 | exact At.p6 | exact At.p7 | exact At.p8 | exact At.p9 | exact At.p10 | exact At.p11 | exact At.p12 | exact At.p13) ?_ rfl rfl) ?_ | refine GoP.qN rfl (ps_loadR rfl ?_ rfl rfl) ?_
        · first | exact Nat.zero_lt_one | assumption | omega | exact InI.of (by omega) (by omega) | (simp only [ints_len, bools_len, st1_len, arcs_len, lits_len, List.length_set, List.length_append, List.length_cons, List.length_nil, List.length_replicate]; omega)
        apply GoP.fork2
        · exact rfl
        · exact rfl
        · exact trivial
        · exact trivial
        · exact ef_make rfl rfl (by first | exact Nat.zero_lt_one | assumption | omega | exact InI.of (by omega) (by omega) | (simp only [ints_len, bools_len, st1_len, arcs_len, lits_len, List.length_set, List.length_append, List.length_cons, List.length_nil, List.length_replicate]; omega)) (by first | exact Nat.zero_lt_one | assumption | omega | exact InI.of (by omega) (by omega) | (simp only [ints_len, bools_len, st1_len, arcs_len, lits_len, List.length_set, List.length_append, List.length_cons, List.length_nil, List.length_replicate]; omega)) rfl rfl
        · exact ef_make rfl rfl (by first | exact Nat.zero_lt_one | assumption | omega | exact InI.of (by omega) (by omega) | (simp only [ints_len, bools_len, st1_len, arcs_len, lits_len, List.length_set, List.length_append, List.length_cons, List.length_nil, List.length_replicate]; omega)) (by first | exact Nat.zero_lt_one | assumption | omega | exact InI.of (by omega) (by omega) | (simp only [ints_len, bools_len, st1_len, arcs_len, lits_len, List.length_set, List.length_append, List.length_cons, List.length_nil, List.length_replicate]; omega)) rfl rfl
        · exact (by first | exact (Take.nil _) | exact (Take.cons _ _ _ _ _ (by first | exact Rem.p0 | exact Rem.p1 | exact Rem.p2 | exact Rem.p3 | exact Rem.p4 | exact Rem.p5 | exact Rem.p6 | exact Rem.p7 | exact Rem.p8 | exact Rem.p9 | exact Rem.p10 | exact Rem.p11 | exact Rem.p12 | exact Rem.p13) (Take.nil _)) | exact (Take.cons _ _ _ _ _ (by first | exact Rem.p0 | exact Rem.p1 | exact Rem.p2 | exact Rem.p3 | exact Rem.p4 | exact Rem.p5 | exact Rem.p6 | exact Rem.p7 | exact Rem.p8 | exact Rem.p9 | exact Rem.p10 | exact Rem.p11 | exact Rem.p12 | exact Rem.p13) (Take.cons _ _ _ _ _ (by first | exact Rem.p0 | exact Rem.p1 | exact Rem.p2 | exact Rem.p3 | exact Rem.p4 | exact Rem.p5 | exact Rem.p6 | exact Rem.p7 | exact Rem.p8 | exact Rem.p9 | exact Rem.p10 | exact Rem.p11 | exact Rem.p12 | exact Rem.p13) (Take.nil _))) | exact (Take.cons _ _ _ _ _ (by first | exact Rem.p0 | exact Rem.p1 | exact Rem.p2 | exact Rem.p3 | exact Rem.p4 | exact Rem.p5 | exact Rem.p6 | exact Rem.p7 | exact Rem.p8 | exact Rem.p9 | exact Rem.p10 | exact Rem.p11 | exact Rem.p12 | exact Rem.p13) (Take.cons _ _ _ _ _ (by first | exact Rem.p0 | exact Rem.p1 | exact Rem.p2 | exact Rem.p3 | exact Rem.p4 | exact Rem.p5 | exact Rem.p6 | exact Rem.p7 | exact Rem.p8 | exact Rem.p9 | exact Rem.p10 | exact Rem.p11 | exact Rem.p12 | exact Rem.p13) (Take.cons _ _ _ _ _ (by first | exact Rem.p0 | exact Rem.p1 | exact Rem.p2 | exact Rem.p3 | exact Rem.p4 | exact Rem.p5 | exact Rem.p6 | exact Rem.p7 | exact Rem.p8 | exact Rem.p9 | exact Rem.p10 | exact Rem.p11 | exact Rem.p12 | exact Rem.p13) (Take.nil _)))) | exact (Take.cons _ _ _ _ _ (by first | exact Rem.p0 | exact Rem.p1 | exact Rem.p2 | exact Rem.p3 | exact Rem.p4 | exact Rem.p5 | exact Rem.p6 | exact Rem.p7 | exact Rem.p8 | exact Rem.p9 | exact Rem.p10 | exact Rem.p11 | exact Rem.p12 | exact Rem.p13) (Take.cons _ _ _ _ _ (by first | exact Rem.p0 | exact Rem.p1 | exact Rem.p2 | exact Rem.p3 | exact Rem.p4 | exact Rem.p5 | exact Rem.p6 | exact Rem.p7 | exact Rem.p8 | exact Rem.p9 | exact Rem.p10 | exact Rem.p11 | exact Rem.p12 | exact Rem.p13) (Take.cons _ _ _ _ _ (by first | exact Rem.p0 | exact Rem.p1 | exact Rem.p2 | exact Rem.p3 | exact Rem.p4 | exact Rem.p5 | exact Rem.p6 | exact Rem.p7 | exact Rem.p8 | exact Rem.p9 | exact Rem.p10 | exact Rem.p11 | exact Rem.p12 | exact Rem.p13) (Take.cons _ _ _ _ _ (by first | exact Rem.p0 | exact Rem.p1 | exact Rem.p2 | exact Rem.p3 | exact Rem.p4 | exact Rem.p5 | exact Rem.p6 | exact Rem.p7 | exact Rem.p8 | exact Rem.p9 | exact Rem.p10 | exact Rem.p11 | exact Rem.p12 | exact Rem.p13) (Take.nil _))))))
        · exact (by first | exact (Take.nil _) | exact (Take.cons _ _ _ _ _ (by first | exact Rem.p0 | exact Rem.p1 | exact Rem.p2 | exact Rem.p3 | exact Rem.p4 | exact Rem.p5 | exact Rem.p6 | exact Rem.p7 | exact Rem.p8 | exact Rem.p9 | exact Rem.p10 | exact Rem.p11 | exact Rem.p12 | exact Rem.p13) (Take.nil _)) | exact (Take.cons _ _ _ _ _ (by first | exact Rem.p0 | exact Rem.p1 | exact Rem.p2 | exact Rem.p3 | exact Rem.p4 | exact Rem.p5 | exact Rem.p6 | exact Rem.p7 | exact Rem.p8 | exact Rem.p9 | exact Rem.p10 | exact Rem.p11 | exact Rem.p12 | exact Rem.p13) (Take.cons _ _ _ _ _ (by first | exact Rem.p0 | exact Rem.p1 | exact Rem.p2 | exact Rem.p3 | exact Rem.p4 | exact Rem.p5 | exact Rem.p6 | exact Rem.p7 | exact Rem.p8 | exact Rem.p9 | exact Rem.p10 | exact Rem.p11 | exact Rem.p12 | exact Rem.p13) (Take.nil _))) | exact (Take.cons _ _ _ _ _ (by first | exact Rem.p0 | exact Rem.p1 | exact Rem.p2 | exact Rem.p3 | exact Rem.p4 | exact Rem.p5 | exact Rem.p6 | exact Rem.p7 | exact Rem.p8 | exact Rem.p9 | exact Rem.p10 | exact Rem.p11 | exact Rem.p12 | exact Rem.p13) (Take.cons _ _ _ _ _ (by first | exact Rem.p0 | exact Rem.p1 | exact Rem.p2 | exact Rem.p3 | exact Rem.p4 | exact Rem.p5 | exact Rem.p6 | exact Rem.p7 | exact Rem.p8 | exact Rem.p9 | exact Rem.p10 | exact Rem.p11 | exact Rem.p12 | exact Rem.p13) (Take.cons _ _ _ _ _ (by first | exact Rem.p0 | exact Rem.p1 | exact Rem.p2 | exact Rem.p3 | exact Rem.p4 | exact Rem.p5 | exact Rem.p6 | exact Rem.p7 | exact Rem.p8 | exact Rem.p9 | exact Rem.p10 | exact Rem.p11 | exact Rem.p12 | exact Rem.p13) (Take.nil _)))) | exact (Take.cons _ _ _ _ _ (by first | exact Rem.p0 | exact Rem.p1 | exact Rem.p2 | exact Rem.p3 | exact Rem.p4 | exact Rem.p5 | exact Rem.p6 | exact Rem.p7 | exact Rem.p8 | exact Rem.p9 | exact Rem.p10 | exact Rem.p11 | exact Rem.p12 | exact Rem.p13) (Take.cons _ _ _ _ _ (by first | exact Rem.p0 | exact Rem.p1 | exact Rem.p2 | exact Rem.p3 | exact Rem.p4 | exact Rem.p5 | exact Rem.p6 | exact Rem.p7 | exact Rem.p8 | exact Rem.p9 | exact Rem.p10 | exact Rem.p11 | exact Rem.p12 | exact Rem.p13) (Take.cons _ _ _ _ _ (by first | exact Rem.p0 | exact Rem.p1 | exact Rem.p2 | exact Rem.p3 | exact Rem.p4 | exact Rem.p5 | exact Rem.p6 | exact Rem.p7 | exact Rem.p8 | exact Rem.p9 | exact Rem.p10 | exact Rem.p11 | exact Rem.p12 | exact Rem.p13) (Take.cons _ _ _ _ _ (by first | exact Rem.p0 | exact Rem.p1 | exact Rem.p2 | exact Rem.p3 | exact Rem.p4 | exact Rem.p5 | exact Rem.p6 | exact Rem.p7 | exact Rem.p8 | exact Rem.p9 | exact Rem.p10 | exact Rem.p11 | exact Rem.p12 | exact Rem.p13) (Take.nil _))))))
        · intro hQ
          rintro _ ⟨β32, rfl⟩
          refine GoP.qN rfl (ps_assign rfl rfl) ?_
          refine GoP.oneB rfl trivial (ef_make rfl rfl ?_ ?_ rfl rfl) (by first | exact (Take.nil _) | exact (Take.cons _ _ _ _ _ (by first | exact Rem.p0 | exact Rem.p1 | exact Rem.p2 | exact Rem.p3 | exact Rem.p4 | exact Rem.p5 | exact Rem.p6 | exact Rem.p7 | exact Rem.p8 | exact Rem.p9 | exact Rem.p10 | exact Rem.p11 | exact Rem.p12 | exact Rem.p13) (Take.nil _)) | exact (Take.cons _ _ _ _ _ (by first | exact Rem.p0 | exact Rem.p1 | exact Rem.p2 | exact Rem.p3 | exact Rem.p4 | exact Rem.p5 | exact Rem.p6 | exact Rem.p7 | exact Rem.p8 | exact Rem.p9 | exact Rem.p10 | exact Rem.p11 | exact Rem.p12 | exact Rem.p13) (Take.cons _ _ _ _ _ (by first | exact Rem.p0 | exact Rem.p1 | exact Rem.p2 | exact Rem.p3 | exact Rem.p4 | exact Rem.p5 | exact Rem.p6 | exact Rem.p7 | exact Rem.p8 | exact Rem.p9 | exact Rem.p10 | exact Rem.p11 | exact Rem.p12 | exact Rem.p13) (Take.nil _))) | exact (Take.cons _ _ _ _ _ (by first | exact Rem.p0 | exact Rem.p1 | exact Rem.p2 | exact Rem.p3 | exact Rem.p4 | exact Rem.p5 | exact Rem.p6 | exact Rem.p7 | exact Rem.p8 | exact Rem.p9 | exact Rem.p10 | exact Rem.p11 | exact Rem.p12 | exact Rem.p13) (Take.cons _ _ _ _ _ (by first | exact Rem.p0 | exact Rem.p1 | exact Rem.p2 | exact Rem.p3 | exact Rem.p4 | exact Rem.p5 | exact Rem.p6 | exact Rem.p7 | exact Rem.p8 | exact Rem.p9 | exact Rem.p10 | exact Rem.p11 | exact Rem.p12 | exact Rem.p13) (Take.cons _ _ _ _ _ (by first | exact Rem.p0 | exact Rem.p1 | exact Rem.p2 | exact Rem.p3 | exact Rem.p4 | exact Rem.p5 | exact Rem.p6 | exact Rem.p7 | exact Rem.p8 | exact Rem.p9 | exact Rem.p10 | exact Rem.p11 | exact Rem.p12 | exact Rem.p13) (Take.nil _)))) | exact (Take.cons _ _ _ _ _ (by first | exact Rem.p0 | exact Rem.p1 | exact Rem.p2 | exact Rem.p3 | exact Rem.p4 | exact Rem.p5 | exact Rem.p6 | exact Rem.p7 | exact Rem.p8 | exact Rem.p9 | exact Rem.p10 | exact Rem.p11 | exact Rem.p12 | exact Rem.p13) (Take.cons _ _ _ _ _ (by first | exact Rem.p0 | exact Rem.p1 | exact Rem.p2 | exact Rem.p3 | exact Rem.p4 | exact Rem.p5 | exact Rem.p6 | exact Rem.p7 | exact Rem.p8 | exact Rem.p9 | exact Rem.p10 | exact Rem.p11 | exact Rem.p12 | exact Rem.p13) (Take.cons _ _ _ _ _ (by first | exact Rem.p0 | exact Rem.p1 | exact Rem.p2 | exact Rem.p3 | exact Rem.p4 | exact Rem.p5 | exact Rem.p6 | exact Rem.p7 | exact Rem.p8 | exact Rem.p9 | exact Rem.p10 | exact Rem.p11 | exact Rem.p12 | exact Rem.p13) (Take.cons _ _ _ _ _ (by first | exact Rem.p0 | exact Rem.p1 | exact Rem.p2 | exact Rem.p3 | exact Rem.p4 | exact Rem.p5 | exact Rem.p6 | exact Rem.p7 | exact Rem.p8 | exact Rem.p9 | exact Rem.p10 | exact Rem.p11 | exact Rem.p12 | exact Rem.p13) (Take.nil _)))))) (fun β34 => ?_)
          · first | exact Nat.zero_lt_one | assumption | omega | exact InI.of (by omega) (by omega) | (simp only [ints_len, bools_len, st1_len, arcs_len, lits_len, List.length_set, List.length_append, List.length_cons, List.length_nil, List.length_replicate]; omega)
          · first | exact Nat.zero_lt_one | assumption | omega | exact InI.of (by omega) (by omega) | (simp only [ints_len, bools_len, st1_len, arcs_len, lits_len, List.length_set, List.length_append, List.length_cons, List.length_nil, List.length_replicate]; omega)
          refine GoP.qN rfl (ps_assign rfl rfl) ?_
          exact GoP.done (hQ β34 β32)
        · intro hQ
          rintro _ ⟨β36, rfl⟩
          refine GoP.oneB rfl trivial (ef_make rfl rfl ?_ ?_ rfl rfl) (by first | exact (Take.nil _) | exact (Take.cons _ _ _ _ _ (by first | exact Rem.p0 | exact Rem.p1 | exact Rem.p2 | exact Rem.p3 | exact Rem.p4 | exact Rem.p5 | exact Rem.p6 | exact Rem.p7 | exact Rem.p8 | exact Rem.p9 | exact Rem.p10 | exact Rem.p11 | exact Rem.p12 | exact Rem.p13) (Take.nil _)) | exact (Take.cons _ _ _ _ _ (by first | exact Rem.p0 | exact Rem.p1 | exact Rem.p2 | exact Rem.p3 | exact Rem.p4 | exact Rem.p5 | exact Rem.p6 | exact Rem.p7 | exact Rem.p8 | exact Rem.p9 | exact Rem.p10 | exact Rem.p11 | exact Rem.p12 | exact Rem.p13) (Take.cons _ _ _ _ _ (by first | exact Rem.p0 | exact Rem.p1 | exact Rem.p2 | exact Rem.p3 | exact Rem.p4 | exact Rem.p5 | exact Rem.p6 | exact Rem.p7 | exact Rem.p8 | exact Rem.p9 | exact Rem.p10 | exact Rem.p11 | exact Rem.p12 | exact Rem.p13) (Take.nil _))) | exact (Take.cons _ _ _ _ _ (by first | exact Rem.p0 | exact Rem.p1 | exact Rem.p2 | exact Rem.p3 | exact Rem.p4 | exact Rem.p5 | exact Rem.p6 | exact Rem.p7 | exact Rem.p8 | exact Rem.p9 | exact Rem.p10 | exact Rem.p11 | exact Rem.p12 | exact Rem.p13) (Take.cons _ _ _ _ _ (by first | exact Rem.p0 | exact Rem.p1 | exact Rem.p2 | exact Rem.p3 | exact Rem.p4 | exact Rem.p5 | exact Rem.p6 | exact Rem.p7 | exact Rem.p8 | exact Rem.p9 | exact Rem.p10 | exact Rem.p11 | exact Rem.p12 | exact Rem.p13) (Take.cons _ _ _ _ _ (by first | exact Rem.p0 | exact Rem.p1 | exact Rem.p2 | exact Rem.p3 | exact Rem.p4 | exact Rem.p5 | exact Rem.p6 | exact Rem.p7 | exact Rem.p8 | exact Rem.p9 | exact Rem.p10 | exact Rem.p11 | exact Rem.p12 | exact Rem.p13) (Take.nil _)))) | exact (Take.cons _ _ _ _ _ (by first | exact Rem.p0 | exact Rem.p1 | exact Rem.p2 | exact Rem.p3 | exact Rem.p4 | exact Rem.p5 | exact Rem.p6 | exact Rem.p7 | exact Rem.p8 | exact Rem.p9 | exact Rem.p10 | exact Rem.p11 | exact Rem.p12 | exact Rem.p13) (Take.cons _ _ _ _ _ (by first | exact Rem.p0 | exact Rem.p1 | exact Rem.p2 | exact Rem.p3 | exact Rem.p4 | exact Rem.p5 | exact Rem.p6 | exact Rem.p7 | exact Rem.p8 | exact Rem.p9 | exact Rem.p10 | exact Rem.p11 | exact Rem.p12 | exact Rem.p13) (Take.cons _ _ _ _ _ (by first | exact Rem.p0 | exact Rem.p1 | exact Rem.p2 | exact Rem.p3 | exact Rem.p4 | exact Rem.p5 | exact Rem.p6 | exact Rem.p7 | exact Rem.p8 | exact Rem.p9 | exact Rem.p10 | exact Rem.p11 | exact Rem.p12 | exact Rem.p13) (Take.cons _ _ _ _ _ (by first | exact Rem.p0 | exact Rem.p1 | exact Rem.p2 | exact Rem.p3 | exact Rem.p4 | exact Rem.p5 | exact Rem.p6 | exact Rem.p7 | exact Rem.p8 | exact Rem.p9 | exact Rem.p10 | exact Rem.p11 | exact Rem.p12 | exact Rem.p13) (Take.nil _)))))) (fun β37 => ?_)
          · first | exact Nat.zero_lt_one | assumption | omega | exact InI.of (by omega) (by omega) | (simp only [ints_len, bools_len, st1_len, arcs_len, lits_len, List.length_set, List.length_append, List.length_cons, List.length_nil, List.length_replicate]; omega)
          · first | exact Nat.zero_lt_one | assumption | omega | exact InI.of (by omega) (by omega) | (simp only [ints_len, bools_len, st1_len, arcs_len, lits_len, List.length_set, List.length_append, List.length_cons, List.length_nil, List.length_replicate]; omega)
          refine GoP.qN rfl (ps_assign rfl rfl) ?_
          refine GoP.qN rfl (ps_assign rfl rfl) ?_
          refine GoP.done (GoK.le ?_ (hQ β36 β37))
          apply Le.ofW
          · repeat (first | exact EnvLeW.nil | refine EnvLeW.cons rfl ?_ | refine EnvLeW.skip rfl ?_)
          · repeat (first | exact Tk.all _ | exact Tk.nil | refine Tk.cons (by first | exact Rem.p0 | exact Rem.p1 | exact Rem.p2 | exact Rem.p3 | exact Rem.p4 | exact Rem.p5 | exact Rem.p6 | exact Rem.p7 | exact Rem.p8 | exact Rem.p9 | exact Rem.p10 | exact Rem.p11 | exact Rem.p12 | exact Rem.p13) ?_)
        · intro β34 β32
          refine GoK.code ?_
          refine GoC.seq ?_
          refine GoC.seq ?_
          refine GoC.region ?_
          refine GoO.pure (ps_move rfl rfl) ?_
          refine GoO.pure (ps_len rfl (by constructor) rfl) ?_
          refine GoO.pure (ps_move rfl rfl) ?_
          refine GoO.nil ?_
          refine GoK.code ?_
          refine GoC.block ?_
          refine GoC.loopE (σ := Nat × List Int × List Int) [1, 2, 4, 5, 6, 8, 9, 35] (fun (k, far, by_) => [(36, .i (k : Int))]) (fun (k, far, by_) => [.one β32 3 1 (ints far), .one β34 3 1 (ints by_)]) (fun n (k, far, by_) => n = g.n.toNat - k ∧ k ≤ g.n.toNat ∧ far = List.replicate k (-1) ++ List.replicate (g.n.toNat - k) 0 ∧ far = by_) (g.n.toNat) (0, _, _) ?_ (by repeat (first | exact EnvLe.nil | refine EnvLe.cons rfl ?_)) (by exact (Take.cons _ _ _ _ _ (by first | exact Rem.p0 | exact Rem.p1 | exact Rem.p2 | exact Rem.p3 | exact Rem.p4 | exact Rem.p5 | exact Rem.p6 | exact Rem.p7 | exact Rem.p8 | exact Rem.p9 | exact Rem.p10 | exact Rem.p11 | exact Rem.p12 | exact Rem.p13) (Take.cons _ _ _ _ _ (by first | exact Rem.p0 | exact Rem.p1 | exact Rem.p2 | exact Rem.p3 | exact Rem.p4 | exact Rem.p5 | exact Rem.p6 | exact Rem.p7 | exact Rem.p8 | exact Rem.p9 | exact Rem.p10 | exact Rem.p11 | exact Rem.p12 | exact Rem.p13) (Take.nil _)))) ?_
          · exact ⟨by omega, by omega, by simp, rfl⟩
          rintro n ⟨k, far, by_⟩ ⟨rfl, hk, hfar, rfl⟩
          have hfl : far.length = g.n.toNat := by rw [hfar]; simp; omega
          refine GoC.seq ?_
          refine GoC.region ?_
          refine GoO.pure (ps_lss rfl rfl rfl) ?_
          refine GoO.nil ?_
          refine GoK.code ?_
          refine GoC.seq ?_
          first | refine GoC.condD rfl (fun h44 => ?_) (fun h44 => ?_) | refine GoC.cond rfl (fun h44 => ?_) (fun h44 => ?_)
          · skip
            have hlt : k < g.n.toNat := by omega
            refine GoC.skip ?_
            refine GoK.code ?_
            refine GoC.seq ?_
            refine GoC.block ?_
            refine GoC.seq ?_
            refine GoC.region ?_
            refine GoO.pure (ps_move rfl rfl) ?_
            refine GoO.pure (ps_assign rfl rfl) ?_
            refine GoO.nil ?_
            refine GoK.code ?_
            refine GoC.region ?_
            refine GoO.pure (ps_move rfl rfl) ?_
            refine GoO.pure (ps_move rfl rfl) ?_
            refine GoO.pure (ps_move rfl rfl) ?_
            refine GoO.pure (ps_move rfl rfl) ?_
            first | refine GoO.pure (ps_indexAddr0N rfl rfl ?_ rfl) ?_ | refine GoO.pure (ps_indexAddrRN rfl rfl ?_ rfl) ?_ | refine GoO.pure (ps_indexAddr0 rfl rfl ?_ rfl) ?_ | refine GoO.pure (ps_indexAddrN rfl rfl ?_ rfl) ?_ | refine GoO.pure (ps_indexAddr rfl rfl ?_ rfl) ?_ | refine GoO.pure (ps_indexAddrR rfl rfl ?_ rfl) ?_
            · first | exact Nat.zero_lt_one | assumption | omega | exact InI.of (by omega) (by omega) | (simp only [ints_len, bools_len, st1_len, arcs_len, lits_len, List.length_set, List.length_append, List.length_cons, List.length_nil, List.length_replicate]; omega)
            refine GoO.eff1 (ef_store rfl rfl rfl (by first | exact At.p0 | exact At.p1 | exact At.p2 | exact At.p3 | exact At.p4 | exact At.p5 | exact At.p6 | exact At.p7 | exact At.p8 | exact At.p9 | exact At.p10 | exact At.p11 | exact At.p12 | exact At.p13) (by first | exact upd_ints | exact upd_bools | exact upd_st1) ?_ rfl) ?_
            · first | exact Nat.zero_lt_one | assumption | omega | exact InI.of (by omega) (by omega) | (simp only [ints_len, bools_len, st1_len, arcs_len, lits_len, List.length_set, List.length_append, List.length_cons, List.length_nil, List.length_replicate]; omega)
            first | refine GoO.pure (ps_indexAddr0N rfl rfl ?_ rfl) ?_ | refine GoO.pure (ps_indexAddrRN rfl rfl ?_ rfl) ?_ | refine GoO.pure (ps_indexAddr0 rfl rfl ?_ rfl) ?_ | refine GoO.pure (ps_indexAddrN rfl rfl ?_ rfl) ?_ | refine GoO.pure (ps_indexAddr rfl rfl ?_ rfl) ?_ | refine GoO.pure (ps_indexAddrR rfl rfl ?_ rfl) ?_
            · first | exact Nat.zero_lt_one | assumption | omega | exact InI.of (by omega) (by omega) | (simp only [ints_len, bools_len, st1_len, arcs_len, lits_len, List.length_set, List.length_append, List.length_cons, List.length_nil, List.length_replicate]; omega)
            refine GoO.eff1 (ef_store rfl rfl rfl (by first | exact At.p0 | exact At.p1 | exact At.p2 | exact At.p3 | exact At.p4 | exact At.p5 | exact At.p6 | exact At.p7 | exact At.p8 | exact At.p9 | exact At.p10 | exact At.p11 | exact At.p12 | exact At.p13) (by first | exact upd_ints | exact upd_bools | exact upd_st1) ?_ rfl) ?_
            · first | exact Nat.zero_lt_one | assumption | omega | exact InI.of (by omega) (by omega) | (simp only [ints_len, bools_len, st1_len, arcs_len, lits_len, List.length_set, List.length_append, List.length_cons, List.length_nil, List.length_replicate]; omega)
            refine GoO.nil ?_
            refine GoK.blk ?_
            refine GoK.code ?_
            refine GoC.region ?_
            refine GoO.pure (ps_add rfl rfl rfl ?_) ?_
            · first | exact Nat.zero_lt_one | assumption | omega | exact InI.of (by omega) (by omega) | (simp only [ints_len, bools_len, st1_len, arcs_len, lits_len, List.length_set, List.length_append, List.length_cons, List.length_nil, List.length_replicate]; omega)
            refine GoO.pure (ps_move rfl rfl) ?_
            refine GoO.nil ?_
            refine GoK.againE (g.n.toNat - (k + 1)) ((k + 1, _, _)) ?_ ?_ (by repeat (first | exact EnvLe.nil | refine EnvLe.cons rfl ?_)) (by repeat (first | exact Tk.all _ | exact Tk.nil | refine Tk.cons (by first | exact Rem.p0 | exact Rem.p1 | exact Rem.p2 | exact Rem.p3 | exact Rem.p4 | exact Rem.p5 | exact Rem.p6 | exact Rem.p7 | exact Rem.p8 | exact Rem.p9 | exact Rem.p10 | exact Rem.p11 | exact Rem.p12 | exact Rem.p13) ?_))
            · omega
            · exact ⟨rfl, hlt, by rw [hfar]; exact set_none hlt, rfl⟩
          · skip
            have ek : k = g.n.toNat := by omega
            subst ek
            rw [Nat.sub_self, List.replicate_zero, List.append_nil] at hfar
            refine GoC.exit rfl ?_
            refine GoK.code ?_
            refine GoC.seq ?_
            refine GoC.region ?_
            refine GoO.pure (ps_move rfl rfl) ?_
            refine GoO.pure (ps_move rfl rfl) ?_
            first | refine GoO.pure (ps_indexAddr0N rfl rfl ?_ rfl) ?_ | refine GoO.pure (ps_indexAddrRN rfl rfl ?_ rfl) ?_ | refine GoO.pure (ps_indexAddr0 rfl rfl ?_ rfl) ?_ | refine GoO.pure (ps_indexAddrN rfl rfl ?_ rfl) ?_ | refine GoO.pure (ps_indexAddr rfl rfl ?_ rfl) ?_ | refine GoO.pure (ps_indexAddrR rfl rfl ?_ rfl) ?_
            · first | exact Nat.zero_lt_one | assumption | omega | exact InI.of (by omega) (by omega) | (simp only [ints_len, bools_len, st1_len, arcs_len, lits_len, List.length_set, List.length_append, List.length_cons, List.length_nil, List.length_replicate]; omega)
            refine GoO.eff1 (ef_store rfl rfl rfl (by first | exact At.p0 | exact At.p1 | exact At.p2 | exact At.p3 | exact At.p4 | exact At.p5 | exact At.p6 | exact At.p7 | exact At.p8 | exact At.p9 | exact At.p10 | exact At.p11 | exact At.p12 | exact At.p13) (by first | exact upd_ints | exact upd_bools | exact upd_st1) ?_ rfl) ?_
            · first | exact Nat.zero_lt_one | assumption | omega | exact InI.of (by omega) (by omega) | (simp only [ints_len, bools_len, st1_len, arcs_len, lits_len, List.length_set, List.length_append, List.length_cons, List.length_nil, List.length_replicate]; omega)
            refine GoO.nil ?_
            refine GoK.code ?_
            refine GoC.seq ?_
            refine GoC.seq ?_
            refine GoC.region ?_
            refine GoO.pure (ps_move rfl rfl) ?_
            refine GoO.effB (ef_buildSlice (ints [s]) rfl (by exact (Parts.cons _ _ _ _ _ _ _ _ ⟨rfl, rfl⟩ (by first | exact Part.one _ rfl rfl | exact Part.ag _ _ rfl) (by rfl) (by rfl) (Parts.nil _))) rfl rfl rfl rfl) (fun β62 => ?_)
            refine GoO.pure (ps_assign rfl rfl) ?_
            refine GoO.nil ?_
            refine GoK.code ?_
            refine GoC.block ?_
            have hsr : (searchF g s).2 = bfs g.as (g.n.toNat + 1) ((none1 g).set s.toNat 0, none1 g, [s]) := by rw [searchF, if_neg (by assumption), if_neg (by omega)]
            subst hfar
            refine GoC.loopE (σ := BK × Nat × Nat × List Int × List Int × List Int × List Int) [2, 4, 5, 6, 8, 9] (fun (β, r, L, xs, far, by_, q) => [(11, .own β 1 r L)]) (fun (β, r, L, xs, far, by_, q) => [.one β32 3 1 (ints far), .one β34 3 1 (ints by_), .one β 3 1 (ints xs)]) (fun n (β, r, L, xs, far, by_, q) => L = q.length ∧ xs.drop r = q ∧ r + L = xs.length ∧ n ≤ g.n.toNat ∧ SI g.n.toNat n (far, by_, q) ∧ bfs g.as (n + 1) (far, by_, q) = (searchF g s).2) (g.n.toNat) (_, 0, 1, [s], _, _, [s]) ?_ (by repeat (first | exact EnvLe.nil | refine EnvLe.cons rfl ?_)) (by exact (Take.cons _ _ _ _ _ (by first | exact Rem.p0 | exact Rem.p1 | exact Rem.p2 | exact Rem.p3 | exact Rem.p4 | exact Rem.p5 | exact Rem.p6 | exact Rem.p7 | exact Rem.p8 | exact Rem.p9 | exact Rem.p10 | exact Rem.p11 | exact Rem.p12 | exact Rem.p13) (Take.cons _ _ _ _ _ (by first | exact Rem.p0 | exact Rem.p1 | exact Rem.p2 | exact Rem.p3 | exact Rem.p4 | exact Rem.p5 | exact Rem.p6 | exact Rem.p7 | exact Rem.p8 | exact Rem.p9 | exact Rem.p10 | exact Rem.p11 | exact Rem.p12 | exact Rem.p13) (Take.cons _ _ _ _ _ (by first | exact Rem.p0 | exact Rem.p1 | exact Rem.p2 | exact Rem.p3 | exact Rem.p4 | exact Rem.p5 | exact Rem.p6 | exact Rem.p7 | exact Rem.p8 | exact Rem.p9 | exact Rem.p10 | exact Rem.p11 | exact Rem.p12 | exact Rem.p13) (Take.nil _))))) ?_
            · exact ⟨rfl, rfl, rfl, Nat.le_refl _, SI.init (by omega) (by omega), hsr.symm⟩
            rintro n ⟨β, r, L, xs, far, by_, q⟩ ⟨hL, hxq, hxl, hnN, hS, hB⟩
            have f1 := hS.l1
            have f2 := hS.l2
            simp only at f1 f2
            refine GoC.seq ?_
            refine GoC.seq ?_
            refine GoC.region ?_
            refine GoO.pure (ps_move rfl rfl) ?_
            refine GoO.pure (ps_len rfl (by constructor) rfl) ?_
            refine GoO.pure (ps_gtr rfl rfl rfl) ?_
            refine GoO.nil ?_
            refine GoK.code ?_
            first | refine GoC.condD rfl (fun h67 => ?_) (fun h67 => ?_) | refine GoC.cond rfl (fun h67 => ?_) (fun h67 => ?_)
            · skip
              obtain ⟨x, q0, rfl⟩ : ∃ x q0, q = x :: q0 := by
                cases q with
                | nil => simp only [List.length_nil] at hL; omega
                | cons x q0 => exact ⟨x, q0, rfl⟩
              obtain ⟨n0, rfl⟩ : ∃ n0, n = n0 + 1 := ⟨n - 1, by have := hS.m; simp only [List.length_cons] at this; omega⟩
              obtain ⟨hS0, hx0, hx1, hxf⟩ := hS.pop
              have hx : xs.getD (0 + r) 0 = x := by
                have h1 := congrArg (fun l => l.getD 0 0) hxq
                simpa [List.getD_eq_getElem?_getD, List.getElem?_drop] using h1
              have hL1 : L = q0.length + 1 := by rw [hL, List.length_cons]
              have hB1 : bfs g.as (n0 + 1) (seeAll x g.as 0 (far, by_, q0)) = (searchF g s).2 := hB
              subst hx
              refine GoC.skip ?_
              refine GoK.code ?_
              refine GoC.seq ?_
              refine GoC.block ?_
              refine GoC.seq ?_
              refine GoC.region ?_
              refine GoO.pure (ps_move rfl rfl) ?_
              first | refine GoO.pure (ps_indexAddr0N (i := 0) rfl rfl ?_ rfl) ?_ | refine GoO.pure (ps_indexAddrRN (i := 0) rfl rfl ?_ rfl) ?_ | refine GoO.pure (ps_indexAddrN (i := 0) rfl rfl ?_ rfl) ?_
              · first | exact Nat.zero_lt_one | assumption | omega | exact InI.of (by omega) (by omega) | (simp only [ints_len, bools_len, st1_len, arcs_len, lits_len, List.length_set, List.length_append, List.length_cons, List.length_nil, List.length_replicate]; omega)
              first | refine GoO.pure (ps_load rfl (by first | exact At.p0 | exact At.p1 | exact At.p2 | exact At.p3 | exact At.p4 | exact At.p5 | exact At.p6 | exact At.p7 | exact At.p8 | exact At.p9 | exact At.p10 | exact At.p11 | exact At.p12 | exact At.p13) (by first | exact At.p0 | exact At.p1 | exact At.p2 | exact At.p3 | exact At.p4 | exact At.p5 | exact At.p6 | exact At.p7 | exact At.p8 | exact At.p9 | exact At.p10 | exact At.p11 | exact At.p12 | exact At.p13) ?_ rfl rfl) ?_ | refine GoO.pure (ps_loadR rfl ?_ rfl rfl) ?_
              · first | exact Nat.zero_lt_one | assumption | omega | exact InI.of (by omega) (by omega) | (simp only [ints_len, bools_len, st1_len, arcs_len, lits_len, List.length_set, List.length_append, List.length_cons, List.length_nil, List.length_replicate]; omega)
              refine GoO.pure (ps_assign rfl rfl) ?_
              refine GoO.nil ?_
              refine GoK.code ?_
              refine GoC.seq ?_
              refine GoC.region ?_
              first | refine GoO.pure (ps_fieldAddr rfl rfl) ?_ | refine GoO.pure (ps_fieldAddrR rfl rfl) ?_
              first | refine GoO.pure (ps_load rfl (by first | exact At.p0 | exact At.p1 | exact At.p2 | exact At.p3 | exact At.p4 | exact At.p5 | exact At.p6 | exact At.p7 | exact At.p8 | exact At.p9 | exact At.p10 | exact At.p11 | exact At.p12 | exact At.p13) (by first | exact At.p0 | exact At.p1 | exact At.p2 | exact At.p3 | exact At.p4 | exact At.p5 | exact At.p6 | exact At.p7 | exact At.p8 | exact At.p9 | exact At.p10 | exact At.p11 | exact At.p12 | exact At.p13) ?_ rfl rfl) ?_ | refine GoO.pure (ps_loadR rfl ?_ rfl rfl) ?_
              · first | exact Nat.zero_lt_one | assumption | omega | exact InI.of (by omega) (by omega) | (simp only [ints_len, bools_len, st1_len, arcs_len, lits_len, List.length_set, List.length_append, List.length_cons, List.length_nil, List.length_replicate]; omega)
              refine GoO.pure (ps_len rfl (by constructor) rfl) ?_
              refine GoO.pure (ps_move rfl rfl) ?_
              refine GoO.nil ?_
              refine GoK.code ?_
              refine GoC.block ?_
              refine GoC.loopE (σ := BK × Nat × Nat × Nat × List Int × List Int × List Int × List Int) [2, 4, 5, 6, 8, 9, 12, 60, 61] (fun (β2, r2, L2, k, ys, fa, yb, q2) => [(62, .i (k : Int)), (11, .own β2 1 r2 L2)]) (fun (β2, r2, L2, k, ys, fa, yb, q2) => [.one β32 3 1 (ints fa), .one β34 3 1 (ints yb), .one β2 3 1 (ints ys)]) (fun n (β2, r2, L2, k, ys, fa, yb, q2) => n = g.as.length - k ∧ k ≤ g.as.length ∧ L2 = q2.length + 1 ∧ ys.drop r2 = (xs.getD (0 + r) 0) :: q2 ∧ r2 + L2 = ys.length ∧ SI g.n.toNat n0 (fa, yb, q2) ∧ 0 ≤ fa.getD (xs.getD (0 + r) 0).toNat 0 ∧ seeAll (xs.getD (0 + r) 0) (g.as.drop k) k (fa, yb, q2) = seeAll (xs.getD (0 + r) 0) g.as 0 (far, by_, q0)) (g.as.length) (_, _, _, 0, _, _, _, q0) ?_ (by repeat (first | exact EnvLe.nil | refine EnvLe.cons rfl ?_)) (by exact (Take.cons _ _ _ _ _ (by first | exact Rem.p0 | exact Rem.p1 | exact Rem.p2 | exact Rem.p3 | exact Rem.p4 | exact Rem.p5 | exact Rem.p6 | exact Rem.p7 | exact Rem.p8 | exact Rem.p9 | exact Rem.p10 | exact Rem.p11 | exact Rem.p12 | exact Rem.p13) (Take.cons _ _ _ _ _ (by first | exact Rem.p0 | exact Rem.p1 | exact Rem.p2 | exact Rem.p3 | exact Rem.p4 | exact Rem.p5 | exact Rem.p6 | exact Rem.p7 | exact Rem.p8 | exact Rem.p9 | exact Rem.p10 | exact Rem.p11 | exact Rem.p12 | exact Rem.p13) (Take.cons _ _ _ _ _ (by first | exact Rem.p0 | exact Rem.p1 | exact Rem.p2 | exact Rem.p3 | exact Rem.p4 | exact Rem.p5 | exact Rem.p6 | exact Rem.p7 | exact Rem.p8 | exact Rem.p9 | exact Rem.p10 | exact Rem.p11 | exact Rem.p12 | exact Rem.p13) (Take.nil _))))) ?_
              · exact ⟨rfl, Nat.zero_le _, hL1, hxq, hxl, hS0, hxf, rfl⟩
              rintro n ⟨β2, r2, L2, k, ys, fa, yb, q2⟩ ⟨rfl, hk, hL2, hyq, hyl, hT, hxa, hE⟩
              have t1 := hT.l1
              have t2 := hT.l2
              simp only at t1 t2
              refine GoC.seq ?_
              refine GoC.region ?_
              refine GoO.pure (ps_lss rfl rfl rfl) ?_
              refine GoO.nil ?_
              refine GoK.code ?_
              refine GoC.seq ?_
              first | refine GoC.condD rfl (fun h77 => ?_) (fun h77 => ?_) | refine GoC.cond rfl (fun h77 => ?_) (fun h77 => ?_)
              · skip
                have hlt : k < g.as.length := by omega
                have ha := hg.arc _ (mem_getD hlt)
                have a3 := ha.t0
                have a4 := ha.t1
                have hsee := hT.see (k := k) (a := g.as.getD k ⟨0, 0, 0⟩) hxa a3 (by omega)
                rw [seeAll_drop hlt] at hE
                have hbx := hT.bd (xs.getD (0 + r) 0).toNat
                simp only at hbx
                have hqm := hT.m
                simp only at hqm
                refine GoC.skip ?_
                refine GoK.code ?_
                refine GoC.seq ?_
                refine GoC.block ?_
                refine GoC.seq ?_
                refine GoC.region ?_
                refine GoO.pure (ps_move rfl rfl) ?_
                first | refine GoO.pure (ps_indexAddr0N rfl rfl ?_ rfl) ?_ | refine GoO.pure (ps_indexAddrRN rfl rfl ?_ rfl) ?_ | refine GoO.pure (ps_indexAddr0 rfl rfl ?_ rfl) ?_ | refine GoO.pure (ps_indexAddrN rfl rfl ?_ rfl) ?_ | refine GoO.pure (ps_indexAddr rfl rfl ?_ rfl) ?_ | refine GoO.pure (ps_indexAddrR rfl rfl ?_ rfl) ?_
                · first | exact Nat.zero_lt_one | assumption | omega | exact InI.of (by omega) (by omega) | (simp only [ints_len, bools_len, st1_len, arcs_len, lits_len, List.length_set, List.length_append, List.length_cons, List.length_nil, List.length_replicate]; omega)
                first | refine GoO.pure (ps_loadAg rfl (by first | exact At.p0 | exact At.p1 | exact At.p2 | exact At.p3 | exact At.p4 | exact At.p5 | exact At.p6 | exact At.p7 | exact At.p8 | exact At.p9 | exact At.p10 | exact At.p11 | exact At.p12 | exact At.p13) (by first | exact At.p0 | exact At.p1 | exact At.p2 | exact At.p3 | exact At.p4 | exact At.p5 | exact At.p6 | exact At.p7 | exact At.p8 | exact At.p9 | exact At.p10 | exact At.p11 | exact At.p12 | exact At.p13) ?_ rfl rfl) ?_ | refine GoO.pure (ps_loadAgR rfl ?_ rfl rfl) ?_
                · first | exact Nat.zero_lt_one | assumption | omega | exact InI.of (by omega) (by omega) | (simp only [ints_len, bools_len, st1_len, arcs_len, lits_len, List.length_set, List.length_append, List.length_cons, List.length_nil, List.length_replicate]; omega)
                refine GoO.effB (ef_alloc rfl) (fun β81 => ?_)
                refine GoO.pure (ps_assign rfl rfl) ?_
                refine GoO.eff1 (ef_storeAg rfl rfl (by first | exact At.p0 | exact At.p1 | exact At.p2 | exact At.p3 | exact At.p4 | exact At.p5 | exact At.p6 | exact At.p7 | exact At.p8 | exact At.p9 | exact At.p10 | exact At.p11 | exact At.p12 | exact At.p13) upd_whole Nat.zero_lt_one rfl) ?_
                refine GoO.nil ?_
                refine GoK.code ?_
                refine GoC.seq ?_
                refine GoC.region ?_
                first | refine GoO.pure (ps_fieldAddr rfl rfl) ?_ | refine GoO.pure (ps_fieldAddrR rfl rfl) ?_
                first | refine GoO.pure (ps_load rfl (by first | exact At.p0 | exact At.p1 | exact At.p2 | exact At.p3 | exact At.p4 | exact At.p5 | exact At.p6 | exact At.p7 | exact At.p8 | exact At.p9 | exact At.p10 | exact At.p11 | exact At.p12 | exact At.p13) (by first | exact At.p0 | exact At.p1 | exact At.p2 | exact At.p3 | exact At.p4 | exact At.p5 | exact At.p6 | exact At.p7 | exact At.p8 | exact At.p9 | exact At.p10 | exact At.p11 | exact At.p12 | exact At.p13) ?_ rfl rfl) ?_ | refine GoO.pure (ps_loadR rfl ?_ rfl rfl) ?_
                · first | exact Nat.zero_lt_one | assumption | omega | exact InI.of (by omega) (by omega) | (simp only [ints_len, bools_len, st1_len, arcs_len, lits_len, List.length_set, List.length_append, List.length_cons, List.length_nil, List.length_replicate]; omega)
                refine GoO.pure (ps_move rfl rfl) ?_
                first | refine GoO.pure (ps_eql rfl rfl rfl) ?_ | refine GoO.pure (ps_eqlB rfl rfl rfl) ?_ | refine GoO.pure (ps_eqlA rfl rfl rfl rfl) ?_
                refine GoO.pure (ps_move rfl rfl) ?_
                first | refine GoO.guardD rfl rfl rfl rfl (fun h89 => ?_) (fun h89 => ?_) | refine GoO.guard rfl rfl rfl rfl (fun h89 => ?_) (fun h89 => ?_)
                · skip
                  refine GoO.pure (ps_move rfl rfl) ?_
                  refine GoO.guardT rfl rfl rfl ?_
                  first | refine GoO.pure (ps_fieldAddr rfl rfl) ?_ | refine GoO.pure (ps_fieldAddrR rfl rfl) ?_
                  refine GoO.guardT rfl rfl rfl ?_
                  first | refine GoO.pure (ps_load rfl (by first | exact At.p0 | exact At.p1 | exact At.p2 | exact At.p3 | exact At.p4 | exact At.p5 | exact At.p6 | exact At.p7 | exact At.p8 | exact At.p9 | exact At.p10 | exact At.p11 | exact At.p12 | exact At.p13) (by first | exact At.p0 | exact At.p1 | exact At.p2 | exact At.p3 | exact At.p4 | exact At.p5 | exact At.p6 | exact At.p7 | exact At.p8 | exact At.p9 | exact At.p10 | exact At.p11 | exact At.p12 | exact At.p13) ?_ rfl rfl) ?_ | refine GoO.pure (ps_loadR rfl ?_ rfl rfl) ?_
                  · first | exact Nat.zero_lt_one | assumption | omega | exact InI.of (by omega) (by omega) | (simp only [ints_len, bools_len, st1_len, arcs_len, lits_len, List.length_set, List.length_append, List.length_cons, List.length_nil, List.length_replicate]; omega)
                  refine GoO.guardT rfl rfl rfl ?_
                  first | refine GoO.pure (ps_indexAddr0N rfl rfl ?_ rfl) ?_ | refine GoO.pure (ps_indexAddrRN rfl rfl ?_ rfl) ?_ | refine GoO.pure (ps_indexAddr0 rfl rfl ?_ rfl) ?_ | refine GoO.pure (ps_indexAddrN rfl rfl ?_ rfl) ?_ | refine GoO.pure (ps_indexAddr rfl rfl ?_ rfl) ?_ | refine GoO.pure (ps_indexAddrR rfl rfl ?_ rfl) ?_
                  · first | exact Nat.zero_lt_one | assumption | omega | exact InI.of (by omega) (by omega) | (simp only [ints_len, bools_len, st1_len, arcs_len, lits_len, List.length_set, List.length_append, List.length_cons, List.length_nil, List.length_replicate]; omega)
                  refine GoO.guardT rfl rfl rfl ?_
                  first | refine GoO.pure (ps_load rfl (by first | exact At.p0 | exact At.p1 | exact At.p2 | exact At.p3 | exact At.p4 | exact At.p5 | exact At.p6 | exact At.p7 | exact At.p8 | exact At.p9 | exact At.p10 | exact At.p11 | exact At.p12 | exact At.p13) (by first | exact At.p0 | exact At.p1 | exact At.p2 | exact At.p3 | exact At.p4 | exact At.p5 | exact At.p6 | exact At.p7 | exact At.p8 | exact At.p9 | exact At.p10 | exact At.p11 | exact At.p12 | exact At.p13) ?_ rfl rfl) ?_ | refine GoO.pure (ps_loadR rfl ?_ rfl rfl) ?_
                  · first | exact Nat.zero_lt_one | assumption | omega | exact InI.of (by omega) (by omega) | (simp only [ints_len, bools_len, st1_len, arcs_len, lits_len, List.length_set, List.length_append, List.length_cons, List.length_nil, List.length_replicate]; omega)
                  refine GoO.guardT rfl rfl rfl ?_
                  refine GoO.pure (ps_lss rfl rfl rfl) ?_
                  refine GoO.pure (ps_pickT rfl rfl rfl) ?_
                  refine GoO.nil ?_
                  refine GoK.code ?_
                  first | refine GoC.condD rfl (fun h97 => ?_) (fun h97 => ?_) | refine GoC.cond rfl (fun h97 => ?_) (fun h97 => ?_)
                  · skip
                    refine GoC.seq ?_
                    refine GoC.drawP (.q 0 (.q 1 (.q 2 (.q 3 (.q 4 (.q 5 (.q 6 (.q 7 (.q 8 (.q 11 (.one 9 (.q 10 (.q 12 (.one 13 (.q 14 (.one 15 (.done))))))))))))))))) [(14, _, _, _)] follows (by kernel_rfl) (by exact (Take.cons _ _ _ _ _ (by first | exact Rem.p0 | exact Rem.p1 | exact Rem.p2 | exact Rem.p3 | exact Rem.p4 | exact Rem.p5 | exact Rem.p6 | exact Rem.p7 | exact Rem.p8 | exact Rem.p9 | exact Rem.p10 | exact Rem.p11 | exact Rem.p12 | exact Rem.p13) (Take.nil _))) ?_
                    refine GoP.qN rfl (ps_move rfl rfl) ?_
                    first | refine GoP.qN rfl (ps_fieldAddr rfl rfl) ?_ | refine GoP.qN rfl (ps_fieldAddrR rfl rfl) ?_
                    first | refine GoP.qN rfl (ps_load rfl (by first | exact At.p0 | exact At.p1 | exact At.p2 | exact At.p3 | exact At.p4 | exact At.p5 | exact At.p6 | exact At.p7 | exact At.p8 | exact At.p9 | exact At.p10 | exact At.p11 | exact At.p12 | exact At.p13) (by first | exact At.p0 | exact At.p1 | exact At.p2 | exact At.p3 | exact At.p4 | exact At.p5 | exact At.p6 | exact At.p7 | exact At.p8 | exact At.p9 | exact At.p10 | exact At.p11 | exact At.p12 | exact At.p13) ?_ rfl rfl) ?_ | refine GoP.qN rfl (ps_loadR rfl ?_ rfl rfl) ?_
                    · first | exact Nat.zero_lt_one | assumption | omega | exact InI.of (by omega) (by omega) | (simp only [ints_len, bools_len, st1_len, arcs_len, lits_len, List.length_set, List.length_append, List.length_cons, List.length_nil, List.length_replicate]; omega)
                    refine GoP.qN rfl (ps_move rfl rfl) ?_
                    first | refine GoP.qN rfl (ps_fieldAddr rfl rfl) ?_ | refine GoP.qN rfl (ps_fieldAddrR rfl rfl) ?_
                    first | refine GoP.qN rfl (ps_load rfl (by first | exact At.p0 | exact At.p1 | exact At.p2 | exact At.p3 | exact At.p4 | exact At.p5 | exact At.p6 | exact At.p7 | exact At.p8 | exact At.p9 | exact At.p10 | exact At.p11 | exact At.p12 | exact At.p13) (by first | exact At.p0 | exact At.p1 | exact At.p2 | exact At.p3 | exact At.p4 | exact At.p5 | exact At.p6 | exact At.p7 | exact At.p8 | exact At.p9 | exact At.p10 | exact At.p11 | exact At.p12 | exact At.p13) ?_ rfl rfl) ?_ | refine GoP.qN rfl (ps_loadR rfl ?_ rfl rfl) ?_
                    · first | exact Nat.zero_lt_one | assumption | omega | exact InI.of (by omega) (by omega) | (simp only [ints_len, bools_len, st1_len, arcs_len, lits_len, List.length_set, List.length_append, List.length_cons, List.length_nil, List.length_replicate]; omega)
                    refine GoP.qN rfl (ps_move rfl rfl) ?_
                    refine GoP.qN rfl (ps_move rfl rfl) ?_
                    first | refine GoP.qN rfl (ps_indexAddr0N rfl rfl ?_ rfl) ?_ | refine GoP.qN rfl (ps_indexAddrRN rfl rfl ?_ rfl) ?_ | refine GoP.qN rfl (ps_indexAddr0 rfl rfl ?_ rfl) ?_ | refine GoP.qN rfl (ps_indexAddrN rfl rfl ?_ rfl) ?_ | refine GoP.qN rfl (ps_indexAddr rfl rfl ?_ rfl) ?_ | refine GoP.qN rfl (ps_indexAddrR rfl rfl ?_ rfl) ?_
                    · first | exact Nat.zero_lt_one | assumption | omega | exact InI.of (by omega) (by omega) | (simp only [ints_len, bools_len, st1_len, arcs_len, lits_len, List.length_set, List.length_append, List.length_cons, List.length_nil, List.length_replicate]; omega)
                    refine GoP.qN rfl (ps_move rfl rfl) ?_
                    first | refine GoP.oneN rfl (ps_load rfl (by first | exact At.p0 | exact At.p1 | exact At.p2 | exact At.p3 | exact At.p4 | exact At.p5 | exact At.p6 | exact At.p7 | exact At.p8 | exact At.p9 | exact At.p10 | exact At.p11 | exact At.p12 | exact At.p13) (by first | exact At.p0 | exact At.p1 | exact At.p2 | exact At.p3 | exact At.p4 | exact At.p5 | exact At.p6 | exact At.p7 | exact At.p8 | exact At.p9 | exact At.p10 | exact At.p11 | exact At.p12 | exact At.p13) ?_ rfl rfl) (by exact (Take.cons _ _ _ _ _ (by first | exact Rem.p0 | exact Rem.p1 | exact Rem.p2 | exact Rem.p3 | exact Rem.p4 | exact Rem.p5 | exact Rem.p6 | exact Rem.p7 | exact Rem.p8 | exact Rem.p9 | exact Rem.p10 | exact Rem.p11 | exact Rem.p12 | exact Rem.p13) (Take.nil _))) ?_ | refine GoP.oneN rfl (ps_loadR rfl ?_ rfl rfl) (by exact (Take.cons _ _ _ _ _ (by first | exact Rem.p0 | exact Rem.p1 | exact Rem.p2 | exact Rem.p3 | exact Rem.p4 | exact Rem.p5 | exact Rem.p6 | exact Rem.p7 | exact Rem.p8 | exact Rem.p9 | exact Rem.p10 | exact Rem.p11 | exact Rem.p12 | exact Rem.p13) (Take.nil _))) ?_
                    · first | exact Nat.zero_lt_one | assumption | omega | exact InI.of (by omega) (by omega) | (simp only [ints_len, bools_len, st1_len, arcs_len, lits_len, List.length_set, List.length_append, List.length_cons, List.length_nil, List.length_replicate]; omega)
                    refine GoP.qN rfl (ps_add rfl rfl rfl ?_) ?_
                    · first | exact Nat.zero_lt_one | assumption | omega | exact InI.of (by omega) (by omega) | (simp only [ints_len, bools_len, st1_len, arcs_len, lits_len, List.length_set, List.length_append, List.length_cons, List.length_nil, List.length_replicate]; omega)
                    first | refine GoP.qN rfl (ps_indexAddr0N rfl rfl ?_ rfl) ?_ | refine GoP.qN rfl (ps_indexAddrRN rfl rfl ?_ rfl) ?_ | refine GoP.qN rfl (ps_indexAddr0 rfl rfl ?_ rfl) ?_ | refine GoP.qN rfl (ps_indexAddrN rfl rfl ?_ rfl) ?_ | refine GoP.qN rfl (ps_indexAddr rfl rfl ?_ rfl) ?_ | refine GoP.qN rfl (ps_indexAddrR rfl rfl ?_ rfl) ?_
                    · first | exact Nat.zero_lt_one | assumption | omega | exact InI.of (by omega) (by omega) | (simp only [ints_len, bools_len, st1_len, arcs_len, lits_len, List.length_set, List.length_append, List.length_cons, List.length_nil, List.length_replicate]; omega)
                    refine GoP.one1 rfl trivial (ef_store rfl rfl rfl (by first | exact At.p0 | exact At.p1 | exact At.p2 | exact At.p3 | exact At.p4 | exact At.p5 | exact At.p6 | exact At.p7 | exact At.p8 | exact At.p9 | exact At.p10 | exact At.p11 | exact At.p12 | exact At.p13) (by first | exact upd_ints | exact upd_bools | exact upd_st1) ?_ rfl) (by exact (Take.cons _ _ _ _ _ (by first | exact Rem.p0 | exact Rem.p1 | exact Rem.p2 | exact Rem.p3 | exact Rem.p4 | exact Rem.p5 | exact Rem.p6 | exact Rem.p7 | exact Rem.p8 | exact Rem.p9 | exact Rem.p10 | exact Rem.p11 | exact Rem.p12 | exact Rem.p13) (Take.cons _ _ _ _ _ (by first | exact Rem.p0 | exact Rem.p1 | exact Rem.p2 | exact Rem.p3 | exact Rem.p4 | exact Rem.p5 | exact Rem.p6 | exact Rem.p7 | exact Rem.p8 | exact Rem.p9 | exact Rem.p10 | exact Rem.p11 | exact Rem.p12 | exact Rem.p13) (Take.nil _)))) ?_
                    · first | exact Nat.zero_lt_one | assumption | omega | exact InI.of (by omega) (by omega) | (simp only [ints_len, bools_len, st1_len, arcs_len, lits_len, List.length_set, List.length_append, List.length_cons, List.length_nil, List.length_replicate]; omega)
                    first | refine GoP.qN rfl (ps_indexAddr0N rfl rfl ?_ rfl) ?_ | refine GoP.qN rfl (ps_indexAddrRN rfl rfl ?_ rfl) ?_ | refine GoP.qN rfl (ps_indexAddr0 rfl rfl ?_ rfl) ?_ | refine GoP.qN rfl (ps_indexAddrN rfl rfl ?_ rfl) ?_ | refine GoP.qN rfl (ps_indexAddr rfl rfl ?_ rfl) ?_ | refine GoP.qN rfl (ps_indexAddrR rfl rfl ?_ rfl) ?_
                    · first | exact Nat.zero_lt_one | assumption | omega | exact InI.of (by omega) (by omega) | (simp only [ints_len, bools_len, st1_len, arcs_len, lits_len, List.length_set, List.length_append, List.length_cons, List.length_nil, List.length_replicate]; omega)
                    refine GoP.one1 rfl trivial (ef_store rfl rfl rfl (by first | exact At.p0 | exact At.p1 | exact At.p2 | exact At.p3 | exact At.p4 | exact At.p5 | exact At.p6 | exact At.p7 | exact At.p8 | exact At.p9 | exact At.p10 | exact At.p11 | exact At.p12 | exact At.p13) (by first | exact upd_ints | exact upd_bools | exact upd_st1) ?_ rfl) (by exact (Take.cons _ _ _ _ _ (by first | exact Rem.p0 | exact Rem.p1 | exact Rem.p2 | exact Rem.p3 | exact Rem.p4 | exact Rem.p5 | exact Rem.p6 | exact Rem.p7 | exact Rem.p8 | exact Rem.p9 | exact Rem.p10 | exact Rem.p11 | exact Rem.p12 | exact Rem.p13) (Take.cons _ _ _ _ _ (by first | exact Rem.p0 | exact Rem.p1 | exact Rem.p2 | exact Rem.p3 | exact Rem.p4 | exact Rem.p5 | exact Rem.p6 | exact Rem.p7 | exact Rem.p8 | exact Rem.p9 | exact Rem.p10 | exact Rem.p11 | exact Rem.p12 | exact Rem.p13) (Take.nil _)))) ?_
                    · first | exact Nat.zero_lt_one | assumption | omega | exact InI.of (by omega) (by omega) | (simp only [ints_len, bools_len, st1_len, arcs_len, lits_len, List.length_set, List.length_append, List.length_cons, List.length_nil, List.length_replicate]; omega)
                    refine GoP.done ?_
                    refine GoK.code ?_
                    refine GoC.region ?_
                    refine GoO.pure (ps_move rfl rfl) ?_
                    first | refine GoO.pure (ps_fieldAddr rfl rfl) ?_ | refine GoO.pure (ps_fieldAddrR rfl rfl) ?_
                    first | refine GoO.pure (ps_load rfl (by first | exact At.p0 | exact At.p1 | exact At.p2 | exact At.p3 | exact At.p4 | exact At.p5 | exact At.p6 | exact At.p7 | exact At.p8 | exact At.p9 | exact At.p10 | exact At.p11 | exact At.p12 | exact At.p13) (by first | exact At.p0 | exact At.p1 | exact At.p2 | exact At.p3 | exact At.p4 | exact At.p5 | exact At.p6 | exact At.p7 | exact At.p8 | exact At.p9 | exact At.p10 | exact At.p11 | exact At.p12 | exact At.p13) ?_ rfl rfl) ?_ | refine GoO.pure (ps_loadR rfl ?_ rfl rfl) ?_
                    · first | exact Nat.zero_lt_one | assumption | omega | exact InI.of (by omega) (by omega) | (simp only [ints_len, bools_len, st1_len, arcs_len, lits_len, List.length_set, List.length_append, List.length_cons, List.length_nil, List.length_replicate]; omega)
                    refine GoO.effB (ef_buildSlice (ints [(g.as.getD k ⟨0, 0, 0⟩).t]) rfl (by exact (Parts.cons _ _ _ _ _ _ _ _ ⟨rfl, rfl⟩ (by first | exact Part.one _ rfl rfl | exact Part.ag _ _ rfl) (by rfl) (by rfl) (Parts.nil _))) rfl rfl rfl rfl) (fun β117 => ?_)
                    refine GoO.effB (ef_append rfl rfl (by first | exact Rem.p0 | exact Rem.p1 | exact Rem.p2 | exact Rem.p3 | exact Rem.p4 | exact Rem.p5 | exact Rem.p6) (Src.own (by first | exact At.p0 | exact At.p1 | exact At.p2 | exact At.p3 | exact At.p4 | exact At.p5 | exact At.p6) (Nat.le_refl _)) (cat_int1d (v := (g.as.getD k ⟨0, 0, 0⟩).t) hyl rfl) ?_ ?_ rfl rfl rfl) (fun β118 => ?_)
                    · first | exact Nat.zero_lt_one | assumption | omega | exact InI.of (by omega) (by omega) | (simp only [ints_len, bools_len, st1_len, arcs_len, lits_len, List.length_set, List.length_append, List.length_cons, List.length_nil, List.length_replicate]; omega)
                    · first | exact Nat.zero_lt_one | assumption | omega | exact InI.of (by omega) (by omega) | (simp only [ints_len, bools_len, st1_len, arcs_len, lits_len, List.length_set, List.length_append, List.length_cons, List.length_nil, List.length_replicate]; omega)
                    refine GoO.pure (ps_assign rfl rfl) ?_
                    refine GoO.nil ?_
                    refine GoK.blk ?_
                    refine GoK.code ?_
                    refine GoC.region ?_
                    refine GoO.pure (ps_add rfl rfl rfl ?_) ?_
                    · first | exact Nat.zero_lt_one | assumption | omega | exact InI.of (by omega) (by omega) | (simp only [ints_len, bools_len, st1_len, arcs_len, lits_len, List.length_set, List.length_append, List.length_cons, List.length_nil, List.length_replicate]; omega)
                    refine GoO.pure (ps_move rfl rfl) ?_
                    refine GoO.nil ?_
                    refine GoK.againE (g.as.length - (k + 1)) ((_, _, _, k + 1, _, _, _, q2 ++ [(g.as.getD k ⟨0, 0, 0⟩).t])) ?_ ?_ (by repeat (first | exact EnvLe.nil | refine EnvLe.cons rfl ?_)) (by repeat (first | exact Tk.all _ | exact Tk.nil | refine Tk.cons (by first | exact Rem.p0 | exact Rem.p1 | exact Rem.p2 | exact Rem.p3 | exact Rem.p4 | exact Rem.p5 | exact Rem.p6 | exact Rem.p7 | exact Rem.p8 | exact Rem.p9 | exact Rem.p10 | exact Rem.p11 | exact Rem.p12 | exact Rem.p13) ?_))
                    · omega
                    · rw [seeArc_yes ‹_› ‹_›] at hE hsee; exact ⟨rfl, hlt, by rw [List.length_append, List.length_singleton]; omega, by rw [hyq]; rfl, by rw [List.length_append, hyq]; simp; omega, hsee.1, hsee.2, hE⟩
                  · skip
                    refine GoC.skip ?_
                    refine GoK.blk ?_
                    refine GoK.code ?_
                    refine GoC.region ?_
                    refine GoO.pure (ps_add rfl rfl rfl ?_) ?_
                    · first | exact Nat.zero_lt_one | assumption | omega | exact InI.of (by omega) (by omega) | (simp only [ints_len, bools_len, st1_len, arcs_len, lits_len, List.length_set, List.length_append, List.length_cons, List.length_nil, List.length_replicate]; omega)
                    refine GoO.pure (ps_move rfl rfl) ?_
                    refine GoO.nil ?_
                    refine GoK.againE (g.as.length - (k + 1)) ((_, _, _, k + 1, _, _, _, q2)) ?_ ?_ (by repeat (first | exact EnvLe.nil | refine EnvLe.cons rfl ?_)) (by repeat (first | exact Tk.all _ | exact Tk.nil | refine Tk.cons (by first | exact Rem.p0 | exact Rem.p1 | exact Rem.p2 | exact Rem.p3 | exact Rem.p4 | exact Rem.p5 | exact Rem.p6 | exact Rem.p7 | exact Rem.p8 | exact Rem.p9 | exact Rem.p10 | exact Rem.p11 | exact Rem.p12 | exact Rem.p13) ?_))
                    · omega
                    · rw [seeArc_no (by first | (rintro ⟨e1, e2⟩; exact absurd e1 ‹_›) | (rintro ⟨e1, e2⟩; exact absurd e2 ‹_›))] at hE hsee; exact ⟨rfl, hlt, hL2, hyq, hyl, hsee.1, hsee.2, hE⟩
                · skip
                  refine GoO.guardF rfl rfl rfl rfl ?_
                  refine GoO.guardF rfl rfl rfl rfl ?_
                  refine GoO.guardF rfl rfl rfl rfl ?_
                  refine GoO.guardF rfl rfl rfl rfl ?_
                  refine GoO.guardF rfl rfl rfl rfl ?_
                  refine GoO.pure (ps_pickF rfl rfl rfl) ?_
                  refine GoO.nil ?_
                  refine GoK.code ?_
                  refine GoC.condF rfl ?_
                  refine GoC.skip ?_
                  refine GoK.blk ?_
                  refine GoK.code ?_
                  refine GoC.region ?_
                  refine GoO.pure (ps_add rfl rfl rfl ?_) ?_
                  · first | exact Nat.zero_lt_one | assumption | omega | exact InI.of (by omega) (by omega) | (simp only [ints_len, bools_len, st1_len, arcs_len, lits_len, List.length_set, List.length_append, List.length_cons, List.length_nil, List.length_replicate]; omega)
                  refine GoO.pure (ps_move rfl rfl) ?_
                  refine GoO.nil ?_
                  refine GoK.againE (g.as.length - (k + 1)) ((_, _, _, k + 1, _, _, _, q2)) ?_ ?_ (by repeat (first | exact EnvLe.nil | refine EnvLe.cons rfl ?_)) (by repeat (first | exact Tk.all _ | exact Tk.nil | refine Tk.cons (by first | exact Rem.p0 | exact Rem.p1 | exact Rem.p2 | exact Rem.p3 | exact Rem.p4 | exact Rem.p5 | exact Rem.p6 | exact Rem.p7 | exact Rem.p8 | exact Rem.p9 | exact Rem.p10 | exact Rem.p11 | exact Rem.p12 | exact Rem.p13) ?_))
                  · omega
                  · rw [seeArc_no (by first | (rintro ⟨e1, e2⟩; exact absurd e1 ‹_›) | (rintro ⟨e1, e2⟩; exact absurd e2 ‹_›))] at hE hsee; exact ⟨rfl, hlt, hL2, hyq, hyl, hsee.1, hsee.2, hE⟩
              · skip
                refine GoC.exit rfl ?_
                refine GoK.blk ?_
                refine GoK.code ?_
                refine GoC.region ?_
                refine GoO.pure (ps_move rfl rfl) ?_
                first | refine GoO.pure (ps_slice rfl (by exact Bd.nat _ _ 1 _ rfl) (by first | exact Bd.no _ | exact Bd.nat _ _ _ _ rfl) ?_ ?_ rfl) ?_ | refine GoO.pure (ps_sliceR rfl (by exact Bd.nat _ _ 1 _ rfl) (by first | exact Bd.no _ | exact Bd.nat _ _ _ _ rfl) ?_ ?_ rfl) ?_
                · first | exact Nat.zero_lt_one | assumption | omega | exact InI.of (by omega) (by omega) | (simp only [ints_len, bools_len, st1_len, arcs_len, lits_len, List.length_set, List.length_append, List.length_cons, List.length_nil, List.length_replicate]; omega)
                · first | exact Nat.zero_lt_one | assumption | omega | exact InI.of (by omega) (by omega) | (simp only [ints_len, bools_len, st1_len, arcs_len, lits_len, List.length_set, List.length_append, List.length_cons, List.length_nil, List.length_replicate]; omega)
                refine GoO.pure (ps_assign rfl rfl) ?_
                refine GoO.nil ?_
                refine GoK.againE (n0) ((_, _, _, _, _, _, q2)) ?_ ?_ (by repeat (first | exact EnvLe.nil | refine EnvLe.cons rfl ?_)) (by repeat (first | exact Tk.all _ | exact Tk.nil | refine Tk.cons (by first | exact Rem.p0 | exact Rem.p1 | exact Rem.p2 | exact Rem.p3 | exact Rem.p4 | exact Rem.p5 | exact Rem.p6 | exact Rem.p7 | exact Rem.p8 | exact Rem.p9 | exact Rem.p10 | exact Rem.p11 | exact Rem.p12 | exact Rem.p13) ?_))
                · omega
                · exact ⟨by omega, by rw [Nat.add_comm, ← List.drop_drop, hyq]; rfl, by omega, by omega, hT, by rw [← hE] at hB1; rw [List.drop_eq_nil_of_le (by omega)] at hB1; exact hB1⟩
            · skip
              have eq : q = [] := by
                cases q with
                | nil => rfl
                | cons x q0 => simp only [List.length_cons] at hL; omega
              subst eq
              have hB1 : (far, by_) = (searchF g s).2 := hB
              refine GoC.exit rfl ?_
              refine GoK.code ?_
              refine GoC.seq ?_
              refine GoC.region ?_
              refine GoO.pure (ps_move rfl rfl) ?_
              refine GoO.pure (ps_move rfl rfl) ?_
              refine GoO.pure (ps_assign rfl rfl) ?_
              refine GoO.pure (ps_assign rfl rfl) ?_
              refine GoO.pure (ps_assign rfl rfl) ?_
              refine GoO.nil ?_
              refine GoK.code ?_
              refine GoC.ret3 (H' := [.one β32 3 1 (ints _), .one β34 3 1 (ints _)]) Try.results39 (ResD.tmp rfl) (ResD.tmp rfl) (ResD.tmp rfl) (by exact (Take.cons _ _ _ _ _ (by first | exact Rem.p0 | exact Rem.p1 | exact Rem.p2 | exact Rem.p3 | exact Rem.p4 | exact Rem.p5 | exact Rem.p6 | exact Rem.p7 | exact Rem.p8 | exact Rem.p9 | exact Rem.p10 | exact Rem.p11 | exact Rem.p12 | exact Rem.p13) (Take.cons _ _ _ _ _ (by first | exact Rem.p0 | exact Rem.p1 | exact Rem.p2 | exact Rem.p3 | exact Rem.p4 | exact Rem.p5 | exact Rem.p6 | exact Rem.p7 | exact Rem.p8 | exact Rem.p9 | exact Rem.p10 | exact Rem.p11 | exact Rem.p12 | exact Rem.p13) (Take.nil _)))) ?_
              · have h3 := searchF_len (g := g) (s := s) (by assumption) (by omega); have h4 : (searchF g s).1 = 0 := (by rw [searchF, if_neg (by assumption), if_neg (by omega)]); exact ⟨_, _, by rw [h3.1, h3.2, h4], by rw [← hB1]⟩
    · skip
      refine GoO.guardF rfl rfl rfl rfl ?_
      refine GoO.guardF rfl rfl rfl rfl ?_
      refine GoO.guardF rfl rfl rfl rfl ?_
      refine GoO.pure (ps_pickT rfl rfl rfl) ?_
      refine GoO.nil ?_
      refine GoK.code ?_
      refine GoC.condT rfl ?_
      refine GoC.seq ?_
      refine GoC.region ?_
      refine GoO.pure (ps_assign rfl rfl) ?_
      refine GoO.pure (ps_assign rfl rfl) ?_
      refine GoO.pure (ps_assign rfl rfl) ?_
      refine GoO.nil ?_
      refine GoK.code ?_
      refine GoC.le (le_nil 4 3 1 (ints []) rfl rfl) ?_
      refine GoC.le (le_nil 5 3 1 (ints []) rfl rfl) ?_
      refine GoC.ret3 (H' := [.one ⟨0, 0, 0⟩ 3 1 (ints []), .one ⟨0, 0, 0⟩ 3 1 (ints [])]) Try.results39 (ResD.tmp rfl) (ResD.tmp rfl) (ResD.tmp rfl) (by exact (Take.cons _ _ _ _ _ (by first | exact Rem.p0 | exact Rem.p1 | exact Rem.p2 | exact Rem.p3 | exact Rem.p4 | exact Rem.p5 | exact Rem.p6 | exact Rem.p7 | exact Rem.p8 | exact Rem.p9 | exact Rem.p10 | exact Rem.p11 | exact Rem.p12 | exact Rem.p13) (Take.cons _ _ _ _ _ (by first | exact Rem.p0 | exact Rem.p1 | exact Rem.p2 | exact Rem.p3 | exact Rem.p4 | exact Rem.p5 | exact Rem.p6 | exact Rem.p7 | exact Rem.p8 | exact Rem.p9 | exact Rem.p10 | exact Rem.p11 | exact Rem.p12 | exact Rem.p13) (Take.nil _)))) ?_
      · exact ⟨_, _, by rw [searchF, if_neg (by assumption), if_pos (by omega)]; rfl, by rw [searchF, if_neg (by assumption), if_pos (by omega)]⟩

end Go.Proofs.Ytmgldjkgneiejaa
