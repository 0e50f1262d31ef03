/- Package most: way finds a way through what is left, or a side that is full; More and Of answer as much as can be. -/
import Derived.Test.YtgkcmjmofcekmaaPmax
import Derived.Test.YtgkcmjmofcekmaaGmost
namespace Go.Proofs.Ytgkcmjmofcekmaa
open Go Go.Proofs.Ytgkcmjmofcekmaa.Sx
set_option linter.unusedVariables false
set_option linter.unusedSimpArgs false
/-! ### what is left -/
/-- a step of what is left leads from x to y -/
structure StepR (L : List Arc) (f : List Int) (st : Step) (x y : Int) : Prop where
  a0 : 0 ≤ st.arc
  a1 : st.arc.toNat < L.length
  fw : st.back = false → (L.getD st.arc.toNat El.d).f = x ∧ (L.getD st.arc.toNat El.d).t = y ∧ f.getD st.arc.toNat 0 < (L.getD st.arc.toNat El.d).c
  bw : st.back = true → (L.getD st.arc.toNat El.d).t = x ∧ (L.getD st.arc.toNat El.d).f = y ∧ 0 < f.getD st.arc.toNat 0
theorem StepR.fwd {L : List Arc} {f : List Int} {j : Nat} {x y : Int} (hj : j < L.length) (h1 : (L.getD j El.d).f = x) (h2 : (L.getD j El.d).t = y) (h3 : f.getD j 0 < (L.getD j El.d).c) : StepR L f ⟨(j : Int), false⟩ x y :=
  ⟨Int.natCast_nonneg _, hj, fun _ => ⟨h1, h2, h3⟩, fun h => nomatch h⟩
theorem StepR.bck {L : List Arc} {f : List Int} {j : Nat} {x y : Int} (hj : j < L.length) (h1 : (L.getD j El.d).t = x) (h2 : (L.getD j El.d).f = y) (h3 : 0 < f.getD j 0) : StepR L f ⟨(j : Int), true⟩ x y :=
  ⟨Int.natCast_nonneg _, hj, (fun h => nomatch h), fun _ => ⟨h1, h2, h3⟩⟩
def roomR (L : List Arc) (f : List Int) (st : Step) : Int := if st.back = true then f.getD st.arc.toNat 0 else (L.getD st.arc.toNat El.d).c - f.getD st.arc.toNat 0
/-- a node of the tree that is built: so many steps from s -/
inductive Tree (L : List Arc) (f : List Int) (s : Int) (by' : Nat → Step) (fr : Nat → Int) : Nat → Int → Prop
  | root (h : 0 ≤ fr s.toNat) : Tree L f s by' fr 0 s
  | step {k : Nat} {x : Int} (hx : x ≠ s) (h0 : 0 ≤ fr x.toNat) (hs : StepR L f (by' x.toNat) (fr x.toNat) x) (ht : Tree L f s by' fr k (fr x.toNat)) : Tree L f s by' fr (k + 1) x
theorem Tree.reached {L : List Arc} {f : List Int} {s : Int} {by' : Nat → Step} {fr : Nat → Int} {k : Nat} {x : Int} (h : Tree L f s by' fr k x) : 0 ≤ fr x.toNat := by
  cases h with
  | root h => exact h
  | step _ h _ _ => exact h
theorem Tree.upd {L : List Arc} {f : List Int} {s : Int} {by' : Nat → Step} {fr : Nat → Int} {y : Nat} {st : Step} {z : Int} (hy : fr y < 0) : ∀ {k : Nat} {x : Int}, Tree L f s by' fr k x → Tree L f s (updF by' y st) (updF fr y z) k x
  | _, _, .root h => .root (by rw [updF, if_neg (fun e => by rw [e] at h; omega)]; exact h)
  | _, _, .step (x := x) hx h0 hs ht => by
    have e : x.toNat ≠ y := fun e => by rw [e] at h0; omega
    have e1 : updF fr y z x.toNat = fr x.toNat := by rw [updF, if_neg e]
    have e2 : updF by' y st x.toNat = by' x.toNat := by rw [updF, if_neg e]
    have := Tree.upd (st := st) (z := z) hy ht
    exact .step hx (by rw [e1]; exact h0) (by rw [e1, e2]; exact hs) (by rw [e1]; exact this)
theorem Tree.depth {L : List Arc} {f : List Int} {s : Int} {by' : Nat → Step} {fr : Nat → Int} : ∀ {k k' : Nat} {x : Int}, Tree L f s by' fr k x → Tree L f s by' fr k' x → k = k'
  | _, _, _, .root _, .root _ => rfl
  | _, _, _, .root _, .step hx _ _ _ => absurd rfl hx
  | _, _, _, .step hx _ _ _, .root _ => absurd rfl hx
  | _, _, _, .step _ _ _ h, .step _ _ _ h' => by rw [Tree.depth h h']
def reach (fr : Nat → Int) : Nat → Bool := fun x => decide (0 ≤ fr x)
structure Bfs (n : Net) (f : List Int) (by' : Nat → Step) (fr : Nat → Int) (todo : List Int) : Prop where
  s : fr n.s.toNat = n.s
  tree : ∀ x : Nat, x < 12 → 0 ≤ fr x → (x : Int) < n.n ∧ ∃ k, Tree n.as f n.s by' fr k x ∧ k < cnt (reach fr) 12
  un : ∀ x : Nat, x < 12 → fr x < 0 → fr x = -1
  todo : ∀ y, y ∈ todo → 0 ≤ y ∧ y < n.n ∧ 0 ≤ fr y.toNat
def ResTo (n : Net) (f : List Int) (x : Int) (k : Nat) (y : Int) : Prop := ((n.as.getD k El.d).f = x ∧ (n.as.getD k El.d).t = y ∧ f.getD k 0 < (n.as.getD k El.d).c) ∨ ((n.as.getD k El.d).t = x ∧ (n.as.getD k El.d).f = y ∧ 0 < f.getD k 0)
def Closed (n : Net) (f : List Int) (fr : Nat → Int) (x : Nat) (j : Nat) : Prop := ∀ k, k < j → ∀ y : Nat, ResTo n f x k y → 0 ≤ fr y
theorem Closed.upd {n : Net} {f : List Int} {fr : Nat → Int} {x j y : Nat} {z : Int} (h : Closed n f fr x j) (hz : 0 ≤ z) : Closed n f (updF fr y z) x j := fun k hk w hr => by
  have := h k hk w hr
  unfold updF; split <;> omega
theorem Bfs.add {n : Net} {f : List Int} {by' : Nat → Step} {fr : Nat → Int} {todo : List Int} (h : Bfs n f by' fr todo) {x y : Int} {st : Step} (hx : 0 ≤ x) (hx2 : x < 12) (hrx : 0 ≤ fr x.toNat) (hs : StepR n.as f st x y) (h0 : 0 ≤ y) (h1 : y < n.n) (hn12 : n.n ≤ 12) (hy : fr y.toNat < 0) :
    Bfs n f (updF by' y.toNat st) (updF fr y.toNat x) (todo ++ [y]) ∧ cnt (reach fr) 12 < cnt (reach (updF fr y.toNat x)) 12 := by
  have hne : ∀ z : Nat, 0 ≤ fr z → z ≠ y.toNat := fun z hz e => by rw [e] at hz; omega
  have hc : cnt (reach fr) 12 < cnt (reach (updF fr y.toNat x)) 12 := by
    refine cnt_lt (y := y.toNat) (fun z hz hr => ?_) (by omega) (by simp [reach, updF, hx]) (by simp [reach]; omega)
    simp only [reach, decide_eq_true_eq] at hr ⊢
    rw [updF, if_neg (hne z hr)]; exact hr
  refine ⟨⟨?_, fun z hz hr => ?_, fun z hz hr => ?_, fun z hz => ?_⟩, hc⟩
  · have := h.s
    have hsr : 0 ≤ fr n.s.toNat := by
      by_cases e : 0 ≤ n.s
      · omega
      · obtain ⟨_, k, hk, _⟩ := h.tree x.toNat (by omega) hrx
        have : ∀ {k : Nat} {x : Int}, Tree n.as f n.s by' fr k x → 0 ≤ fr n.s.toNat := fun {k x} ht => by
          induction ht with
          | root h => exact h
          | step _ _ _ _ ih => exact ih
        exact this hk
    rw [updF, if_neg (hne _ hsr)]; exact this
  · by_cases e : z = y.toNat
    · obtain ⟨hxn, k, hk, hkc⟩ := h.tree x.toNat (by omega) hrx
      refine ⟨by omega, k + 1, ?_, by omega⟩
      have hk' := hk.upd (st := st) (z := x) hy
      rw [show ((x.toNat : Nat) : Int) = x by omega] at hk'
      subst e
      rw [show ((y.toNat : Nat) : Int) = y by omega]
      refine .step (fun e => ?_) (by simp [updF, hx]) (by simpa [updF] using hs) (by simpa [updF] using hk')
      have := h.s
      rw [← e] at this
      omega
    · rw [updF, if_neg e] at hr
      obtain ⟨h1, k, hk, hkc⟩ := h.tree z hz hr
      exact ⟨h1, k, hk.upd hy, by omega⟩
  · by_cases e : z = y.toNat
    · rw [updF, if_pos e] at hr; omega
    · rw [updF, if_neg e] at hr ⊢; exact h.un z hz hr
  · rcases List.mem_append.1 hz with hz | hz
    · obtain ⟨h1, h2, h3⟩ := h.todo z hz
      exact ⟨h1, h2, by unfold updF; split <;> omega⟩
    · obtain rfl := List.mem_singleton.1 hz
      exact ⟨h0, h1, by simp [updF, hx]⟩
structure WIn (n : Net) (f : List Int) : Prop where
  net : OkNet n
  len : f.length = n.as.length
  r : ∀ k, k < f.length → 0 ≤ f.getD k 0 ∧ f.getD k 0 ≤ (n.as.getD k El.d).c
theorem Flow.win {n : Net} {f : List Int} (h : Flow n f) : WIn n f := ⟨h.net, h.len, h.r⟩
/-- the state within the loop over the arcs -/
structure Mid (n : Net) (f : List Int) (at' : Int) (j : Nat) (todo : List Int) (σ : (Nat → Step) × (Nat → Int) × List Int) : Prop where
  bfs : Bfs n f σ.1 σ.2.1 σ.2.2
  pre : ∃ ext, σ.2.2 = todo ++ ext
  rest : ∀ x : Nat, x < 12 → 0 ≤ σ.2.1 x → (x : Int) ∉ σ.2.2 → Closed n f σ.2.1 x n.as.length
  done : Closed n f σ.2.1 at'.toNat j
theorem Mid.add {n : Net} {f : List Int} {at' : Int} {j : Nat} {todo : List Int} {σ : (Nat → Step) × (Nat → Int) × List Int} (h : Mid n f at' j todo σ) {y : Int} {st : Step} (hat : 0 ≤ at' ∧ at' < 12) (hr : 0 ≤ σ.2.1 at'.toNat) (hs : StepR n.as f st at' y) (h0 : 0 ≤ y) (h1 : y < n.n) (hn12 : n.n ≤ 12) (hy : σ.2.1 y.toNat < 0) :
    Mid n f at' j todo (updF σ.1 y.toNat st, updF σ.2.1 y.toNat at', σ.2.2 ++ [y]) ∧ 12 - cnt (reach (updF σ.2.1 y.toNat at')) 12 + (σ.2.2 ++ [y]).length ≤ 12 - cnt (reach σ.2.1) 12 + σ.2.2.length := by
  obtain ⟨b, hc⟩ := h.bfs.add hat.1 hat.2 hr hs h0 h1 hn12 hy
  have hle := cnt_le (reach (updF σ.2.1 y.toNat at')) 12
  have hm : 12 - cnt (reach (updF σ.2.1 y.toNat at')) 12 + (σ.2.2 ++ [y]).length ≤ 12 - cnt (reach σ.2.1) 12 + σ.2.2.length := by simp; omega
  refine ⟨⟨b, ?_, fun x hx hr2 hm => ?_, h.done.upd hat.1⟩, hm⟩
  · obtain ⟨e, he⟩ := h.pre
    exact ⟨e ++ [y], by dsimp only; rw [he, List.append_assoc]⟩
  · dsimp only at hr2 hm ⊢
    have hx1 : (x : Int) ≠ y := fun e => hm (by simp [e])
    rw [updF, if_neg (by omega)] at hr2
    exact (h.rest x hx hr2 fun h => hm (by simp [h])).upd hat.1
def meas (fr : Nat → Int) (l : List Int) : Nat := 12 - cnt (reach fr) 12 + l.length
theorem Closed.snoc {n : Net} {f : List Int} {fr : Nat → Int} {x j : Nat} (h : Closed n f fr x j) (hj : ∀ y : Nat, ResTo n f x j y → 0 ≤ fr y) : Closed n f fr x (j + 1) := fun k hk y hr => by
  by_cases e : k = j
  · subst e; exact hj y hr
  · exact h k (by omega) y hr
theorem way_inner {n : Net} {f : List Int} (hw : WIn n f) {todo : List Int} {at' : Int} (he : todo.getD 0 0 = at') (hat : 0 ≤ at' ∧ at' < 12) {j : Nat} (hj : j < n.as.length) {σ : (Nat → Step) × (Nat → Int) × List Int} (hm : Mid n f at' j todo σ) (hl : σ.2.2.length ≤ 1000) (hr : 0 ≤ σ.2.1 at'.toNat) :
    ∃ σ', most_way_B3 n f todo j σ = some σ' ∧ Mid n f at' (j + 1) todo σ' ∧ meas σ'.2.1 σ'.2.2 ≤ meas σ.2.1 σ.2.2 ∧ 0 ≤ σ'.2.1 at'.toNat := by
  obtain ⟨by', fr, l⟩ := σ
  have hn := hw.net
  have n12 := hn.g.n1
  dsimp only at n12
  have hG := hn.arc hj
  have f0 := hG.f0; have f1 := hG.f1; have t0 := hG.t0; have t1 := hG.t1
  have hlen := hw.len
  dsimp only at hl hr
  unfold most_way_B3
  -- the first half
  have first : ∃ σ1 : (Nat → Step) × (Nat → Int) × List Int, ((
  if (n.as.getD j El.d).f = todo.getD 0 (0 : Int) then
   ck (j < f.length) <|
   if f.getD j (0 : Int) < (n.as.getD j El.d).c then
    ck (0 ≤ (n.as.getD j El.d).t ∧ (n.as.getD j El.d).t < 12) <|
    if fr (n.as.getD j El.d).t.toNat < 0 then
     ck (l.length + 1 ≤ 17592186044416) <|
     some (updF by' (n.as.getD j El.d).t.toNat (⟨((j : Nat) : Int), false⟩ : Step), updF fr (n.as.getD j El.d).t.toNat (todo.getD 0 (0 : Int)), l ++ ([(n.as.getD j El.d).t] : List Int))
    else
     some (by', fr, l)
   else
    some (by', fr, l)
  else
   some (by', fr, l)) : Option ((Nat → Step) × (Nat → Int) × (List Int))) = some σ1 ∧ Mid n f at' j todo σ1 ∧ meas σ1.2.1 σ1.2.2 ≤ meas fr l ∧ 0 ≤ σ1.2.1 at'.toNat ∧ σ1.2.2.length ≤ 1001 ∧ ∀ y : Nat, (n.as.getD j El.d).f = at' → (n.as.getD j El.d).t = y → f.getD j 0 < (n.as.getD j El.d).c → 0 ≤ σ1.2.1 y := by
    rw [he]
    by_cases h1 : (n.as.getD j El.d).f = at'
    · rw [if_pos h1, ck_some (by omega)]
      by_cases h2 : f.getD j 0 < (n.as.getD j El.d).c
      · rw [if_pos h2, ck_some (by omega)]
        by_cases h3 : fr (n.as.getD j El.d).t.toNat < 0
        · rw [if_pos h3, ck_some (by omega)]
          have hst : StepR n.as f ⟨(j : Int), false⟩ at' (n.as.getD j El.d).t := .fwd hj h1 rfl h2
          obtain ⟨m1, m2⟩ := hm.add hat hr hst t0 t1 n12 h3
          refine ⟨_, rfl, m1, m2, ?_, ?_, fun y _ e _ => ?_⟩
          · dsimp only; unfold updF; split <;> omega
          · simp; omega
          · dsimp only; rw [updF, if_pos (by omega)]; exact hat.1
        · rw [if_neg h3]
          exact ⟨_, rfl, hm, Nat.le_refl _, hr, by dsimp only; omega, fun y _ e _ => by dsimp only; rw [show y = (n.as.getD j El.d).t.toNat by omega]; omega⟩
      · rw [if_neg h2]
        exact ⟨_, rfl, hm, Nat.le_refl _, hr, by dsimp only; omega, fun y _ _ e => absurd e h2⟩
    · rw [if_neg h1]
      exact ⟨_, rfl, hm, Nat.le_refl _, hr, by dsimp only; omega, fun y e _ _ => absurd e h1⟩
  obtain ⟨⟨by1, fr1, l1⟩, e1, hm1, ms1, hr1, hl1, hc1⟩ := first
  dsimp only at hm1 ms1 hr1 hl1 hc1
  dsimp only
  rw [e1, bind_some']
  dsimp only
  rw [he]
  by_cases h1 : (n.as.getD j El.d).t = at'
  · rw [if_pos h1, ck_some (by omega)]
    by_cases h2 : 0 < f.getD j 0
    · rw [if_pos h2, ck_some (by omega)]
      by_cases h3 : fr1 (n.as.getD j El.d).f.toNat < 0
      · rw [if_pos h3, ck_some (by omega)]
        have hst : StepR n.as f ⟨(j : Int), true⟩ at' (n.as.getD j El.d).f := .bck hj h1 rfl h2
        obtain ⟨m1, m2⟩ := hm1.add hat hr1 hst f0 f1 n12 h3
        refine ⟨_, rfl, ⟨m1.bfs, m1.pre, m1.rest, m1.done.snoc fun y hy => ?_⟩, Nat.le_trans m2 ms1, ?_⟩
        · dsimp only at hy ⊢
          rcases hy with ⟨q1, q2, q3⟩ | ⟨q1, q2, q3⟩
          · have := hc1 y (by omega) q2 q3
            unfold updF; split <;> omega
          · rw [updF, if_pos (by omega)]; exact hat.1
        · dsimp only; unfold updF; split <;> omega
      · rw [if_neg h3]
        refine ⟨_, rfl, ⟨hm1.bfs, hm1.pre, hm1.rest, hm1.done.snoc fun y hy => ?_⟩, ms1, hr1⟩
        rcases hy with ⟨q1, q2, q3⟩ | ⟨q1, q2, q3⟩
        · exact hc1 y (by omega) q2 q3
        · dsimp only; rw [show y = (n.as.getD j El.d).f.toNat by omega]; omega
    · rw [if_neg h2]
      refine ⟨_, rfl, ⟨hm1.bfs, hm1.pre, hm1.rest, hm1.done.snoc fun y hy => ?_⟩, ms1, hr1⟩
      rcases hy with ⟨q1, q2, q3⟩ | ⟨q1, q2, q3⟩
      · exact hc1 y (by omega) q2 q3
      · exact absurd q3 h2
  · rw [if_neg h1]
    refine ⟨_, rfl, ⟨hm1.bfs, hm1.pre, hm1.rest, hm1.done.snoc fun y hy => ?_⟩, ms1, hr1⟩
    rcases hy with ⟨q1, q2, q3⟩ | ⟨q1, q2, q3⟩
    · exact hc1 y (by omega) q2 q3
    · omega
/-- what holds ahead of each round of the search -/
structure Out (n : Net) (f : List Int) (σ : (Nat → Step) × (Nat → Int) × List Int) : Prop where
  bfs : Bfs n f σ.1 σ.2.1 σ.2.2
  rest : ∀ x : Nat, x < 12 → 0 ≤ σ.2.1 x → (x : Int) ∉ σ.2.2 → Closed n f σ.2.1 x n.as.length
  m : meas σ.2.1 σ.2.2 ≤ 12
theorem subl_tail {α : Type} [El α] (a : α) (l : List α) : subl (a :: l) 1 ((a :: l).length - 1) = l := by
  refine eq_of_getD (d := El.d) (by simp [subl_length]) fun i hi => ?_
  rw [subl_getD (by simpa [subl_length] using hi)]
  simp [List.getD_eq_getElem?_getD, Nat.add_comm]
theorem way_search {n : Net} {f : List Int} (hw : WIn n f) {σ : (Nat → Step) × (Nat → Int) × List Int} (h0 : Out n f σ) :
    ∃ σ', loopC (most_way_B2 n f) 1000000 σ = some (.go σ') ∧ Out n f σ' ∧ (σ'.2.2 = [] ∨ 0 ≤ σ'.2.1 n.t.toNat) := by
  have hn := hw.net
  have n12 := hn.g.n1; have t0 := hn.t0; have t1 := hn.t1
  dsimp only at n12
  obtain ⟨q, e, hq⟩ := loopC_or (f := most_way_B2 n f) (Out n f) (fun q => ∃ σ', q = .go σ' ∧ Out n f σ' ∧ (σ'.2.2 = [] ∨ 0 ≤ σ'.2.1 n.t.toNat)) (fun σ => meas σ.2.1 σ.2.2) (fun σ h => by
    obtain ⟨by', fr, l⟩ := σ
    have hm := h.m
    dsimp only [meas] at hm
    unfold most_way_B2
    cases l with
    | nil =>
      right; left
      refine ⟨_, by dsimp only; rw [if_neg (by simp)], _, rfl, h, .inl rfl⟩
    | cons at' r =>
      dsimp only
      rw [if_pos (by simp only [List.length_cons]; omega), ck_some (by omega)]
      by_cases ht : fr n.t.toNat < 0
      · rw [if_pos ht, ck_some (by simp)]
        left
        obtain ⟨a0, a1, a2⟩ := h.bfs.todo at' (by simp)
        have := hm
        simp only [List.length_cons] at hm
        obtain ⟨σ', e1, ⟨m1, m2, m3⟩⟩ := forN_inv (f := most_way_B3 n f (at' :: r)) (fun j σ => Mid n f at' j (at' :: r) σ ∧ meas σ.2.1 σ.2.2 ≤ meas fr (at' :: r) ∧ 0 ≤ σ.2.1 at'.toNat) (n := n.as.length) (k := 0) (s := (by', fr, at' :: r))
          ⟨⟨h.bfs, ⟨[], by simp⟩, h.rest, fun k hk => absurd hk (by omega)⟩, Nat.le_refl _, a2⟩ fun j σ _ hj ⟨i1, i2, i3⟩ => by
            obtain ⟨σ', q1, q2, q3, q4⟩ := way_inner hw (todo := at' :: r) (at' := at') (by simp) ⟨a0, by omega⟩ (by omega) i1 (by simp only [meas, List.length_cons] at i2; omega) i3
            exact ⟨σ', q1, q2, by omega, q4⟩
        obtain ⟨by2, fr2, l2⟩ := σ'
        rw [e1, bind_some']
        dsimp only
        obtain ⟨ext, hx⟩ := m1.pre
        dsimp only at hx m2 m3
        have hx' : l2 = at' :: (r ++ ext) := hx
        subst hx'
        rw [ck_some (by simp), subl_tail]
        refine ⟨_, rfl, ⟨⟨m1.bfs.s, m1.bfs.tree, m1.bfs.un, fun y hy => m1.bfs.todo y (List.mem_cons_of_mem _ hy)⟩, fun x hx hr hm => ?_, ?_⟩, ?_⟩
        · dsimp only at hr hm ⊢
          by_cases e : (x : Int) = at'
          · have := m1.done
            rw [Nat.zero_add] at this
            rw [show x = at'.toNat by omega]; exact this
          · exact m1.rest x hx hr (by simp at hm ⊢; exact ⟨e, hm⟩)
        · simp only [meas, List.length_cons] at m2 ⊢; omega
        · simp only [meas, List.length_cons] at m2 ⊢; omega
      · rw [if_neg ht]
        right; left
        exact ⟨_, rfl, _, rfl, h, .inr (by dsimp only; omega)⟩) (n := 1000000) h0 (by have := h0.m; omega)
  obtain ⟨σ', rfl, h1, h2⟩ := hq
  exact ⟨σ', e, h1, h2⟩
/-! ### the way that was found -/
theorem StepR.range {n : Net} {f : List Int} {st : Step} {x y : Int} (hn : OkNet n) (h : StepR n.as f st x y) : (0 ≤ x ∧ x < n.n) ∧ 0 ≤ y ∧ y < n.n := by
  have hG := hn.arc h.a1
  have := hG.f0; have := hG.f1; have := hG.t0; have := hG.t1
  cases e : st.back with
  | true => obtain ⟨e1, e2, _⟩ := h.bw e; omega
  | false => obtain ⟨e1, e2, _⟩ := h.fw e; omega
theorem StepR.room {n : Net} {f : List Int} {st : Step} {x y : Int} (hw : WIn n f) (h : StepR n.as f st x y) : 1 ≤ roomR n.as f st ∧ roomR n.as f st ≤ 10000 := by
  have hG := hw.net.arc h.a1
  have := hG.c0; have := hG.c1; have := hw.r st.arc.toNat (by rw [hw.len]; exact h.a1)
  unfold roomR
  cases e : st.back with
  | true => obtain ⟨e1, e2, _⟩ := h.bw e; rw [if_pos rfl]; omega
  | false => obtain ⟨e1, e2, _⟩ := h.fw e; rw [if_neg (by decide)]; omega
structure Trail (n : Net) (f : List Int) (l : List Step) (r : Int) : Prop where
  pos : 0 < r
  big : r ≤ 10000
  nd : ∃ nd : Nat → Int, nd 0 = n.t ∧ nd l.length = n.s ∧ ∀ i, i < l.length → StepR n.as f (l.getD i El.d) (nd (i + 1)) (nd i)
  room : ∀ i, i < l.length → r ≤ roomR n.as f (l.getD i El.d)
  apart : ∀ i j, i < j → j < l.length → (l.getD i El.d).arc ≠ (l.getD j El.d).arc
structure Part (n : Net) (f : List Int) (by' : Nat → Step) (fr : Nat → Int) (K : Nat) (nd : Nat → Int) (σ : List Step × Int × Int) : Prop where
  z : nd 0 = n.t
  e : nd σ.1.length = σ.2.2
  st : ∀ i, i < σ.1.length → StepR n.as f (σ.1.getD i El.d) (nd (i + 1)) (nd i) ∧ σ.2.1 ≤ roomR n.as f (σ.1.getD i El.d)
  tree : ∀ i, i ≤ σ.1.length → Tree n.as f n.s by' fr (K - i) (nd i)
  len : σ.1.length ≤ K
  pos : 1 ≤ σ.2.1
  big : σ.2.1 ≤ 10000
theorem getD_snoc {α : Type} (l : List α) (a d : α) (i : Nat) : (l ++ [a]).getD i d = if i < l.length then l.getD i d else if i = l.length then a else d := by
  simp only [List.getD_eq_getElem?_getD, List.getElem?_append]
  split
  · rfl
  · split
    · rename_i h; subst h; simp
    · rename_i h1 h2; rw [List.getElem?_eq_none (by simp; omega)]; rfl
theorem Part.snoc {n : Net} {f : List Int} {by' : Nat → Step} {fr : Nat → Int} {K : Nat} {nd : Nat → Int} {l : List Step} {room x : Int} (hw : WIn n f) (h : Part n f by' fr K nd (l, room, x)) (hx : x ≠ n.s) :
    StepR n.as f (by' x.toNat) (fr x.toNat) x ∧ l.length < K ∧ Part n f by' fr K (fun i => if i ≤ l.length then nd i else fr x.toNat) (l ++ [by' x.toNat], min room (roomR n.as f (by' x.toNat)), fr x.toNat) := by
  have hT := h.tree l.length (Nat.le_refl _)
  have hlen := h.len
  have he := h.e
  have hp := h.pos; have hb := h.big
  dsimp only at hlen he hp hb
  rw [he] at hT
  generalize hk : K - l.length = kk at hT
  cases hT with
  | root => exact absurd rfl hx
  | @step k _ _ h0 hs ht =>
    have hr := hs.room hw
    refine ⟨hs, by omega, ⟨?_, ?_, fun i hi => ?_, fun i hi => ?_, by simp; omega, by dsimp only; omega, by dsimp only; omega⟩⟩
    · rw [if_pos (Nat.zero_le _)]; exact h.z
    · rw [if_neg (by simp)]
    · dsimp only at hi ⊢
      simp only [List.length_append, List.length_cons, List.length_nil] at hi
      rw [getD_snoc]
      by_cases e : i < l.length
      · rw [if_pos e, if_pos (by omega), if_pos (by omega)]
        obtain ⟨q1, q2⟩ := h.st i e
        dsimp only at q1 q2
        exact ⟨q1, by omega⟩
      · rw [if_neg e, if_pos (by omega), if_neg (by omega), if_pos (by omega), show i = l.length by omega, he]
        exact ⟨hs, by omega⟩
    · dsimp only at hi ⊢
      simp only [List.length_append, List.length_cons, List.length_nil] at hi
      by_cases e : i ≤ l.length
      · rw [if_pos e]; exact h.tree i e
      · rw [if_neg e, show K - i = k by omega]; exact ht
theorem root_only {n : Net} {f : List Int} {by' : Nat → Step} {fr : Nat → Int} {K i : Nat} {x : Int} (hi : i ≤ ([] : List Step).length) (ht : Tree n.as f n.s by' fr K x) : Tree n.as f n.s by' fr (K - i) x := by
  obtain rfl : i = 0 := by simpa using hi
  exact ht
theorem way_path {n : Net} {f : List Int} (hw : WIn n f) {by' : Nat → Step} {fr : Nat → Int} {K : Nat} (hK : K < 12) (ht : Tree n.as f n.s by' fr K n.t) :
    ∃ l r, loopC (most_way_B4 n f by' fr) 1000000 ([], 10000, n.t) = some (.go (l, r, n.s)) ∧ Trail n f l r := by
  have hn := hw.net
  have n12 := hn.g.n1
  dsimp only at n12
  have hlen := hw.len
  obtain ⟨q, e, hq⟩ := loopC_or (f := most_way_B4 n f by' fr) (fun σ => ∃ nd, Part n f by' fr K nd σ) (fun q => ∃ l r nd, q = .go (l, r, n.s) ∧ Part n f by' fr K nd (l, r, n.s)) (fun σ => K - σ.1.length) (fun σ ⟨nd, h⟩ => by
    obtain ⟨l, room, x⟩ := σ
    unfold most_way_B4
    dsimp only
    by_cases hx : x = n.s
    · rw [if_neg (by simpa using hx)]
      subst hx
      exact .inr (.inl ⟨_, rfl, l, room, nd, rfl, h⟩)
    · rw [if_pos hx]
      obtain ⟨hs, hl, hP⟩ := h.snoc hw hx
      have hR := hs.range hn
      have hroom := hs.room hw
      have hll := h.len
      dsimp only at hll
      have a0 := hs.a0; have a1 := hs.a1
      left
      rw [ck_some (by omega), ck_some (by omega)]
      unfold roomR at hP hroom
      cases hb : (by' x.toNat).back with
      | true =>
        rw [if_pos rfl, ck_some (by omega)]
        rw [hb, if_pos rfl] at hP
        exact ⟨_, rfl, ⟨_, hP⟩, by simp; omega⟩
      | false =>
        rw [hb, if_neg (by decide)] at hP hroom
        rw [if_neg (by decide), ck_some (by omega), ck_some (by omega), ck_some (inI_small (by omega) (by omega))]
        exact ⟨_, rfl, ⟨_, hP⟩, by simp; omega⟩) (n := 1000000) (s := ([], 10000, n.t)) ⟨fun _ => n.t, rfl, rfl, fun i hi => absurd hi (by simp), fun i hi => root_only hi ht, by simp, by dsimp only; omega, by dsimp only; omega⟩ (by dsimp only [List.length_nil]; omega)
  obtain ⟨l, r, nd, rfl, h⟩ := hq
  refine ⟨l, r, e, by have := h.pos; dsimp only at this; omega, h.big, ⟨nd, h.z, h.e, fun i hi => (h.st i hi).1⟩, fun i hi => (h.st i hi).2, fun i j hij hj ha => ?_⟩
  have hlen' := h.len
  dsimp only at hlen'
  have s1 := (h.st i (show i < l.length by omega)).1
  have s2 := (h.st j hj).1
  dsimp only at s1 s2
  have T := h.tree
  dsimp only at T
  have same : ∀ {a b : Nat}, a ≤ l.length → b ≤ l.length → nd a = nd b → a = b := fun {a b} h1 h2 he => by
    have t1 := T a h1
    rw [he] at t1
    have := t1.depth (T b h2)
    omega
  cases b1 : (l.getD i El.d).back with
  | true =>
    cases b2 : (l.getD j El.d).back with
    | true =>
      have := same (a := i) (b := j) (by omega) (by omega) (by rw [← (s1.bw b1).2.1, ← (s2.bw b2).2.1, ha])
      omega
    | false =>
      have e1 := same (a := i + 1) (b := j) (by omega) (by omega) (by rw [← (s1.bw b1).1, ← (s2.fw b2).2.1, ha])
      have e2 := same (a := i) (b := j + 1) (by omega) (by omega) (by rw [← (s1.bw b1).2.1, ← (s2.fw b2).1, ha])
      omega
  | false =>
    cases b2 : (l.getD j El.d).back with
    | true =>
      have e1 := same (a := i + 1) (b := j) (by omega) (by omega) (by rw [← (s1.fw b1).1, ← (s2.bw b2).2.1, ha])
      have e2 := same (a := i) (b := j + 1) (by omega) (by omega) (by rw [← (s1.fw b1).2.1, ← (s2.bw b2).1, ha])
      omega
    | false =>
      have := same (a := i) (b := j) (by omega) (by omega) (by rw [← (s1.fw b1).2.1, ← (s2.fw b2).2.1, ha])
      omega
theorem way_init : forN (most_way_B1) 12 0 (fun _ => (0 : Int) : Nat → Int) = some (fun x => if x < 12 then -1 else 0) := by
  obtain ⟨s, h1, h2⟩ := forN_inv (f := most_way_B1) (fun j s => ∀ x, s x = if x < j then -1 else 0) (n := 12) (k := 0) (s := (fun _ => (0 : Int))) (fun x => by simp) fun j s _ hj hs => ⟨_, rfl, fun x => by
    unfold updF
    by_cases e : x = j
    · subst e; rw [if_pos rfl, if_pos (by omega)]
    · rw [if_neg e, hs x]
      by_cases h : x < j
      · rw [if_pos h, if_pos (by omega)]
      · rw [if_neg h, if_neg (by omega)]⟩
  rw [h1]
  congr 1
  funext x
  exact h2 x
theorem way_spec {n : Net} {f : List Int} (hw : WIn n f) : (most_way_F n f = some ([], 0) ∧ ∃ S, Cut n S ∧ Tight n f S) ∨ ∃ l r, most_way_F n f = some (l, r) ∧ Trail n f l r := by
  have hn := hw.net
  have n12 := hn.g.n1; have s0 := hn.s0; have s1 := hn.s1; have t0 := hn.t0; have t1 := hn.t1
  dsimp only at n12
  unfold most_way_F
  rw [way_init, bind_some', ck_some (by omega)]
  have fr0 : ∀ x : Nat, updF (fun x => if x < 12 then -1 else 0) n.s.toNat n.s x = if x = n.s.toNat then n.s else if x < 12 then -1 else 0 := fun x => rfl
  have h0 : Out n f ((fun _ => El.d : Nat → Step), (updF (fun x => if x < 12 then -1 else 0) n.s.toNat n.s), ([n.s] : List Int)) := by
    refine ⟨⟨?_, fun x hx hr => ?_, fun x hx hr => ?_, fun y hy => ?_⟩, fun x hx hr hm => ?_, ?_⟩
    · dsimp only; rw [fr0, if_pos rfl]
    · dsimp only at hr ⊢
      rw [fr0] at hr
      by_cases e : x = n.s.toNat
      · refine ⟨by omega, 0, ?_, ?_⟩
        · rw [show ((x : Nat) : Int) = n.s by omega]
          exact .root (by rw [fr0, if_pos rfl]; exact s0)
        · exact cnt_pos (y := n.s.toNat) (by omega) (by simp only [reach]; rw [fr0, if_pos rfl]; simpa using s0)
      · rw [if_neg e, if_pos hx] at hr; omega
    · dsimp only at hr ⊢
      rw [fr0] at hr ⊢
      by_cases e : x = n.s.toNat
      · rw [if_pos e] at hr; omega
      · rw [if_neg e, if_pos hx]
    · obtain rfl := List.mem_singleton.1 hy
      exact ⟨s0, s1, by dsimp only; rw [fr0, if_pos rfl]; exact s0⟩
    · dsimp only at hr hm
      rw [fr0] at hr
      by_cases e : x = n.s.toNat
      · exact absurd (List.mem_singleton.2 (by omega)) hm
      · rw [if_neg e, if_pos hx] at hr; omega
    · have : 1 ≤ cnt (reach (updF (fun x => if x < 12 then -1 else 0) n.s.toNat n.s)) 12 := cnt_pos (y := n.s.toNat) (by omega) (by simp only [reach]; rw [fr0, if_pos rfl]; simpa using s0)
      simp only [meas, List.length_cons, List.length_nil]; omega
  obtain ⟨⟨by', fr, l⟩, e, hO, hend⟩ := way_search hw h0
  rw [e, bind_some']
  dsimp only at hend ⊢
  rw [ck_some (by omega)]
  by_cases ht : fr n.t.toNat < 0
  · rw [if_pos ht]
    left
    have hl : l = [] := hend.resolve_right (by omega)
    subst hl
    refine ⟨rfl, fun x => if 0 ≤ x ∧ x < 12 ∧ 0 ≤ fr x.toNat then 1 else 0, ⟨?_, ?_, fun x => ?_⟩, ⟨fun k hk e1 e2 => ?_, fun k hk e1 e2 => ?_⟩⟩
    · have := hO.bfs.s
      dsimp only at this
      rw [if_pos (by omega)]
    · rw [if_neg (by omega)]
    · split
      · exact .inr rfl
      · exact .inl rfl
    · have hG := hn.small hk
      have hr := hw.r k (by rw [hw.len]; exact hk)
      refine Classical.byContradiction fun hne => ?_
      have c1 : 0 ≤ (n.as.getD k El.d).f ∧ (n.as.getD k El.d).f < 12 ∧ 0 ≤ fr (n.as.getD k El.d).f.toNat := Classical.byContradiction fun c => by rw [if_neg c] at e1; omega
      have c2 : ¬ (0 ≤ (n.as.getD k El.d).t ∧ (n.as.getD k El.d).t < 12 ∧ 0 ≤ fr (n.as.getD k El.d).t.toNat) := fun c => by rw [if_pos c] at e2; omega
      have := hO.rest (n.as.getD k El.d).f.toNat (by omega) c1.2.2 (by simp) k hk (n.as.getD k El.d).t.toNat (.inl ⟨by omega, by omega, by omega⟩)
      dsimp only at this
      omega
    · have hG := hn.small hk
      have hr := hw.r k (by rw [hw.len]; exact hk)
      refine Classical.byContradiction fun hne => ?_
      have c1 : 0 ≤ (n.as.getD k El.d).t ∧ (n.as.getD k El.d).t < 12 ∧ 0 ≤ fr (n.as.getD k El.d).t.toNat := Classical.byContradiction fun c => by rw [if_neg c] at e2; omega
      have c2 : ¬ (0 ≤ (n.as.getD k El.d).f ∧ (n.as.getD k El.d).f < 12 ∧ 0 ≤ fr (n.as.getD k El.d).f.toNat) := fun c => by rw [if_pos c] at e1; omega
      have := hO.rest (n.as.getD k El.d).t.toNat (by omega) c1.2.2 (by simp) k hk (n.as.getD k El.d).f.toNat (.inr ⟨by omega, by omega, by omega⟩)
      dsimp only at this
      omega
  · rw [if_neg ht]
    right
    obtain ⟨_, K, hK, hc⟩ := hO.bfs.tree n.t.toNat (by omega) (by dsimp only; omega)
    rw [show ((n.t.toNat : Nat) : Int) = n.t by omega] at hK
    have := cnt_le (reach fr) 12
    dsimp only at hK hc
    obtain ⟨l, r, e2, hT⟩ := way_path hw (by omega) hK
    rw [e2, bind_some']
    exact ⟨l, r, rfl, hT⟩
end Go.Proofs.Ytgkcmjmofcekmaa
