/- What the functions of short compute, by walks through their text. -/
import Derived.Test.YtmgldjkgneiejaaTys
import Derived.Test.YtmgldjkgneiejaaDat
import Derived.Test.YtmgldjkgneiejaaGraph
namespace Go.Proofs.Ytmgldjkgneiejaa
open Go Go.Proofs.Ytmgldjkgneiejaa.Sx
set_option linter.unusedVariables false
set_option linter.unusedSimpArgs false

def arcAt (g : Graph) (k : Nat) : Arc := g.as.getD k ⟨0, 0, 0⟩
structure Good (n : Int) (a : Arc) : Prop where
  f0 : 0 ≤ a.f
  f1 : a.f < n
  t0 : 0 ≤ a.t
  t1 : a.t < n
  c0 : -10000 ≤ a.c
  c1 : a.c ≤ 10000
structure Ok (g : Graph) : Prop where
  n0 : 1 ≤ g.n
  n1 : g.n ≤ 12
  len : g.as.length ≤ 60
  arc : ∀ a, a ∈ g.as → Good g.n a
theorem mem_getD {l : List Arc} {k : Nat} (h : k < l.length) : l.getD k ⟨0, 0, 0⟩ ∈ l := by
  rw [List.getD_eq_getElem?_getD, List.getElem?_eq_getElem h]; exact List.getElem_mem h
theorem checkL_ok (n : Int) : ∀ l : List Arc, checkL n (-10000) l = 0 ↔ ∀ a, a ∈ l → Good n a
  | [] => by simp [checkL]
  | a :: r => by
    rw [checkL]
    constructor
    · intro h
      split at h
      · omega
      · split at h
        · omega
        · rename_i h1 h2
          intro b hb
          rcases List.mem_cons.1 hb with rfl | hb
          · exact ⟨by omega, by omega, by omega, by omega, by omega, by omega⟩
          · exact (checkL_ok n r).1 h b hb
    · intro h
      have ha := h a (by simp)
      have := ha.f0; have := ha.f1; have := ha.t0; have := ha.t1; have := ha.c0; have := ha.c1
      rw [if_neg (by omega), if_neg (by omega)]
      exact (checkL_ok n r).2 fun b hb => h b (by simp [hb])
theorem checkF_ok (g : Graph) : checkF g (-10000) = 0 ↔ Ok g := by
  unfold checkF
  constructor
  · intro h
    split at h
    · omega
    · split at h
      · omega
      · exact ⟨by omega, by omega, by omega, (checkL_ok _ _).1 h⟩
  · intro h
    have := h.n0; have := h.n1; have := h.len
    rw [if_neg (by omega), if_neg (by omega)]
    exact (checkL_ok _ _).2 h.arc

abbrev RS := List Int × List Bool × Bool
def relaxStep (s : RS) (a : Arc) : RS :=
  if s.2.1.getD a.f.toNat false = true ∧ (s.2.1.getD a.t.toNat false = false ∨ s.1.getD a.f.toNat 0 + a.c < s.1.getD a.t.toNat 0) then (s.1.set a.t.toNat (s.1.getD a.f.toNat 0 + a.c), s.2.1.set a.t.toNat true, false) else s
def relaxPass (l : List Arc) (s : RS) : RS := l.foldl relaxStep s
def relaxN (l : List Arc) : Nat → List Int → List Bool → Bool × List Int × List Bool
  | 0, far, known => (false, far, known)
  | n + 1, far, known => if (relaxPass l (far, known, true)).2.2 = true then (true, (relaxPass l (far, known, true)).1, (relaxPass l (far, known, true)).2.1) else relaxN l n (relaxPass l (far, known, true)).1 (relaxPass l (far, known, true)).2.1
/-- No number is greater than so many arcs. -/
def Bd (far : List Int) (m : Nat) : Prop := ∀ i, -(10000 * (m : Int)) ≤ far.getD i 0 ∧ far.getD i 0 ≤ 10000 * m
theorem Bd.mono {far : List Int} {m m' : Nat} (h : Bd far m) (hm : m ≤ m') : Bd far m' := fun i => by
  have := h i
  omega
structure RI (g : Graph) (N m0 : Nat) (P : RS) (k : Nat) (s : RS) : Prop where
  le : k ≤ g.as.length
  l1 : s.1.length = N
  l2 : s.2.1.length = N
  bd : Bd s.1 (m0 + k)
  fold : (g.as.drop k).foldl relaxStep s = P
section
variable {g : Graph} {N m0 k : Nat} {P : RS} {far : List Int} {known : List Bool} {still : Bool}
theorem RI.step (h : RI g N m0 P k (far, known, still)) (hlt : k < g.as.length) : (g.as.drop (k + 1)).foldl relaxStep (relaxStep (far, known, still) (g.as.getD k ⟨0, 0, 0⟩)) = P := by
  have := h.fold
  rw [drop_get hlt, List.foldl_cons] at this
  exact this
theorem RI.no1 (h : RI g N m0 P k (far, known, still)) (hlt : k < g.as.length) (h1 : known.getD (g.as.getD k ⟨0, 0, 0⟩).f.toNat false = false) : RI g N m0 P (k + 1) (far, known, still) :=
  ⟨hlt, h.l1, h.l2, h.bd.mono (by omega), by
    have := h.step hlt
    rwa [show relaxStep (far, known, still) (g.as.getD k ⟨0, 0, 0⟩) = (far, known, still) by unfold relaxStep; rw [if_neg]; simp only; rw [h1]; simp] at this⟩
theorem RI.no2 (h : RI g N m0 P k (far, known, still)) (hlt : k < g.as.length) (h1 : (!known.getD (g.as.getD k ⟨0, 0, 0⟩).t.toNat false) = false) (h2 : ¬ far.getD (g.as.getD k ⟨0, 0, 0⟩).f.toNat 0 + (g.as.getD k ⟨0, 0, 0⟩).c < far.getD (g.as.getD k ⟨0, 0, 0⟩).t.toNat 0) : RI g N m0 P (k + 1) (far, known, still) :=
  ⟨hlt, h.l1, h.l2, h.bd.mono (by omega), by
    have h3 : known.getD (g.as.getD k ⟨0, 0, 0⟩).t.toNat false = true := by simpa using h1
    have := h.step hlt
    rwa [show relaxStep (far, known, still) (g.as.getD k ⟨0, 0, 0⟩) = (far, known, still) by
      unfold relaxStep; rw [if_neg]; rintro ⟨_, h4 | h4⟩
      · simp only at h4; rw [h3] at h4; cases h4
      · exact h2 h4] at this⟩
theorem RI.yes (h : RI g N m0 P k (far, known, still)) (hok : Ok g) (hlt : k < g.as.length) (h0 : known.getD (g.as.getD k ⟨0, 0, 0⟩).f.toNat false = true)
    (h1 : (!known.getD (g.as.getD k ⟨0, 0, 0⟩).t.toNat false) = true ∨ far.getD (g.as.getD k ⟨0, 0, 0⟩).f.toNat 0 + (g.as.getD k ⟨0, 0, 0⟩).c < far.getD (g.as.getD k ⟨0, 0, 0⟩).t.toNat 0) :
    RI g N m0 P (k + 1) (far.set (g.as.getD k ⟨0, 0, 0⟩).t.toNat (far.getD (g.as.getD k ⟨0, 0, 0⟩).f.toNat 0 + (g.as.getD k ⟨0, 0, 0⟩).c), known.set (g.as.getD k ⟨0, 0, 0⟩).t.toNat true, false) :=
  ⟨hlt, by simpa using h.l1, by simpa using h.l2, fun i => by
    have hb := h.bd i
    have hb2 := h.bd (g.as.getD k ⟨0, 0, 0⟩).f.toNat
    have ha := hok.arc _ (mem_getD hlt)
    have := ha.c0; have := ha.c1
    simp only at hb hb2 ⊢
    rw [List.getD_eq_getElem?_getD, List.getElem?_set]
    by_cases hi : (g.as.getD k ⟨0, 0, 0⟩).t.toNat = i
    · rw [if_pos hi]
      split
      · simp only [Option.getD_some]; omega
      · simp only [Option.getD_none]; omega
    · rw [if_neg hi, ← List.getD_eq_getElem?_getD]; omega, by
    have := h.step hlt
    rwa [show relaxStep (far, known, still) (g.as.getD k ⟨0, 0, 0⟩) = _ by
      unfold relaxStep; rw [if_pos ⟨h0, h1.imp (fun e => by simpa using e) id⟩]] at this⟩
end
theorem relaxN_zero (l : List Arc) (far : List Int) (known : List Bool) : relaxN l 0 far known = (false, far, known) := rfl

set_option maxRecDepth 100000 in
set_option maxHeartbeats 400000 in
theorem checkLong_spec (g : Graph) : Does Try.prog 36 [graphD g] [] (fun d H => d = .i (checkF g (-10000)) ∧ H = []) := by
  refine Does.intro Try.func36 rfl Try.ntmps36 rfl fun w0 I0 => ?_
  refine GoC.seq ?_
  refine GoC.region ?_
  refine GoO.effB (ef_boxAg rfl rfl) (fun β1 => ?_)
  refine GoO.pure (ps_assign rfl rfl) ?_
  refine GoO.nil ?_
  refine GoK.code ?_
  refine GoC.seq ?_
  refine GoC.region ?_
  first | refine GoO.pure (ps_loadAg rfl (by first | exact At.p0 | exact At.p1 | exact At.p2 | exact At.p3 | exact At.p4 | exact At.p5 | exact At.p6 | exact At.p7 | exact At.p8 | exact At.p9 | exact At.p10 | exact At.p11 | exact At.p12 | exact At.p13) (by first | exact At.p0 | exact At.p1 | exact At.p2 | exact At.p3 | exact At.p4 | exact At.p5 | exact At.p6 | exact At.p7 | exact At.p8 | exact At.p9 | exact At.p10 | exact At.p11 | exact At.p12 | exact At.p13) ?_ rfl rfl) ?_ | refine GoO.pure (ps_loadAgR rfl ?_ rfl rfl) ?_
  · first | exact Nat.zero_lt_one | assumption | omega | exact InI.of (by omega) (by omega) | (simp only [ints_len, bools_len, st1_len, arcs_len, lits_len, List.length_set, List.length_append, List.length_cons, List.length_nil, List.length_replicate]; omega)
  refine GoO.effC (ef_call rfl (by first | exact (Take.nil _) | exact (Take.cons _ _ _ _ _ (by first | exact Rem.p0 | exact Rem.p1 | exact Rem.p2 | exact Rem.p3 | exact Rem.p4 | exact Rem.p5 | exact Rem.p6 | exact Rem.p7 | exact Rem.p8 | exact Rem.p9 | exact Rem.p10 | exact Rem.p11 | exact Rem.p12 | exact Rem.p13) (Take.nil _)) | exact (Take.cons _ _ _ _ _ (by first | exact Rem.p0 | exact Rem.p1 | exact Rem.p2 | exact Rem.p3 | exact Rem.p4 | exact Rem.p5 | exact Rem.p6 | exact Rem.p7 | exact Rem.p8 | exact Rem.p9 | exact Rem.p10 | exact Rem.p11 | exact Rem.p12 | exact Rem.p13) (Take.cons _ _ _ _ _ (by first | exact Rem.p0 | exact Rem.p1 | exact Rem.p2 | exact Rem.p3 | exact Rem.p4 | exact Rem.p5 | exact Rem.p6 | exact Rem.p7 | exact Rem.p8 | exact Rem.p9 | exact Rem.p10 | exact Rem.p11 | exact Rem.p12 | exact Rem.p13) (Take.nil _))) | exact (Take.cons _ _ _ _ _ (by first | exact Rem.p0 | exact Rem.p1 | exact Rem.p2 | exact Rem.p3 | exact Rem.p4 | exact Rem.p5 | exact Rem.p6 | exact Rem.p7 | exact Rem.p8 | exact Rem.p9 | exact Rem.p10 | exact Rem.p11 | exact Rem.p12 | exact Rem.p13) (Take.cons _ _ _ _ _ (by first | exact Rem.p0 | exact Rem.p1 | exact Rem.p2 | exact Rem.p3 | exact Rem.p4 | exact Rem.p5 | exact Rem.p6 | exact Rem.p7 | exact Rem.p8 | exact Rem.p9 | exact Rem.p10 | exact Rem.p11 | exact Rem.p12 | exact Rem.p13) (Take.cons _ _ _ _ _ (by first | exact Rem.p0 | exact Rem.p1 | exact Rem.p2 | exact Rem.p3 | exact Rem.p4 | exact Rem.p5 | exact Rem.p6 | exact Rem.p7 | exact Rem.p8 | exact Rem.p9 | exact Rem.p10 | exact Rem.p11 | exact Rem.p12 | exact Rem.p13) (Take.nil _)))) | exact (Take.cons _ _ _ _ _ (by first | exact Rem.p0 | exact Rem.p1 | exact Rem.p2 | exact Rem.p3 | exact Rem.p4 | exact Rem.p5 | exact Rem.p6 | exact Rem.p7 | exact Rem.p8 | exact Rem.p9 | exact Rem.p10 | exact Rem.p11 | exact Rem.p12 | exact Rem.p13) (Take.cons _ _ _ _ _ (by first | exact Rem.p0 | exact Rem.p1 | exact Rem.p2 | exact Rem.p3 | exact Rem.p4 | exact Rem.p5 | exact Rem.p6 | exact Rem.p7 | exact Rem.p8 | exact Rem.p9 | exact Rem.p10 | exact Rem.p11 | exact Rem.p12 | exact Rem.p13) (Take.cons _ _ _ _ _ (by first | exact Rem.p0 | exact Rem.p1 | exact Rem.p2 | exact Rem.p3 | exact Rem.p4 | exact Rem.p5 | exact Rem.p6 | exact Rem.p7 | exact Rem.p8 | exact Rem.p9 | exact Rem.p10 | exact Rem.p11 | exact Rem.p12 | exact Rem.p13) (Take.cons _ _ _ _ _ (by first | exact Rem.p0 | exact Rem.p1 | exact Rem.p2 | exact Rem.p3 | exact Rem.p4 | exact Rem.p5 | exact Rem.p6 | exact Rem.p7 | exact Rem.p8 | exact Rem.p9 | exact Rem.p10 | exact Rem.p11 | exact Rem.p12 | exact Rem.p13) (Take.nil _)))))) (by exact LendL.cons (by first | exact Lend.refl _ _ | exact Lend.all' (by first | exact At.p0 | exact At.p1 | exact At.p2 | exact At.p3 | exact At.p4 | exact At.p5 | exact At.p6 | exact At.p7 | exact At.p8 | exact At.p9 | exact At.p10 | exact At.p11 | exact At.p12 | exact At.p13) (by rfl) (by rfl) | exact Lend.nil | exact Lend.e0 | exact Lend.agL (by repeat (first | exact LendL.nil | refine LendL.cons (by first | exact Lend.refl _ _ | exact Lend.all' (by first | exact At.p0 | exact At.p1 | exact At.p2 | exact At.p3 | exact At.p4 | exact At.p5 | exact At.p6 | exact At.p7 | exact At.p8 | exact At.p9 | exact At.p10 | exact At.p11 | exact At.p12 | exact At.p13) (by rfl) (by rfl) | exact Lend.nil) ?_))) (LendL.cons (by first | exact Lend.refl _ _ | exact Lend.all' (by first | exact At.p0 | exact At.p1 | exact At.p2 | exact At.p3 | exact At.p4 | exact At.p5 | exact At.p6 | exact At.p7 | exact At.p8 | exact At.p9 | exact At.p10 | exact At.p11 | exact At.p12 | exact At.p13) (by rfl) (by rfl) | exact Lend.nil | exact Lend.e0 | exact Lend.agL (by repeat (first | exact LendL.nil | refine LendL.cons (by first | exact Lend.refl _ _ | exact Lend.all' (by first | exact At.p0 | exact At.p1 | exact At.p2 | exact At.p3 | exact At.p4 | exact At.p5 | exact At.p6 | exact At.p7 | exact At.p8 | exact At.p9 | exact At.p10 | exact At.p11 | exact At.p12 | exact At.p13) (by rfl) (by rfl) | exact Lend.nil) ?_))) (LendL.nil))) (check_spec g (-10000)) rfl) (fun r H hp => ?_)
  obtain ⟨rfl, rfl⟩ := hp
  refine GoO.pure (ps_assign rfl rfl) ?_
  refine GoO.nil ?_
  refine GoK.code ?_
  refine GoC.ret1 (H' := []) Try.results36 (ResD.tmp rfl) (by exact (Take.nil _)) ?_
  · exact ⟨rfl, rfl⟩
set_option maxRecDepth 100000 in
set_option maxHeartbeats 400000 in
theorem relax_spec (g : Graph) (hg : Ok g) (N : Nat) (hN : (N : Int) = g.n) (far : List Int) (known : List Bool) (hl1 : far.length = N) (hl2 : known.length = N) (hbd : Bd far 0) (βf βk : BK) : Does Try.prog 38 [graphD g, .own βf 1 0 N, .own βk 1 0 N] [.one βf 3 1 (ints far), .one βk 4 1 (bools known)] (fun d H => d = .bo (relaxN g.as (N + 1) far known).1 ∧ H = [.one βf 3 1 (ints (relaxN g.as (N + 1) far known).2.1), .one βk 4 1 (bools (relaxN g.as (N + 1) far known).2.2)]) := by
  have hn0 := hg.n0
  have hn1 := hg.n1
  have hal := hg.len
  refine Does.intro Try.func38 rfl Try.ntmps38 rfl fun w0 I0 => ?_
  refine GoC.seq ?_
  refine GoC.region ?_
  refine GoO.effB (ef_boxAg rfl rfl) (fun β1 => ?_)
  refine GoO.pure (ps_assign rfl rfl) ?_
  refine GoO.nil ?_
  refine GoK.code ?_
  refine GoC.seq ?_
  refine GoC.seq ?_
  refine GoC.region ?_
  first | refine GoO.pure (ps_fieldAddr rfl rfl) ?_ | refine GoO.pure (ps_fieldAddrR rfl rfl) ?_
  first | refine GoO.pure (ps_load rfl (by first | exact At.p0 | exact At.p1 | exact At.p2 | exact At.p3 | exact At.p4 | exact At.p5 | exact At.p6 | exact At.p7 | exact At.p8 | exact At.p9 | exact At.p10 | exact At.p11 | exact At.p12 | exact At.p13) (by first | exact At.p0 | exact At.p1 | exact At.p2 | exact At.p3 | exact At.p4 | exact At.p5 | exact At.p6 | exact At.p7 | exact At.p8 | exact At.p9 | exact At.p10 | exact At.p11 | exact At.p12 | exact At.p13) ?_ rfl rfl) ?_ | refine GoO.pure (ps_loadR rfl ?_ rfl rfl) ?_
  · first | exact Nat.zero_lt_one | assumption | omega | exact InI.of (by omega) (by omega) | (simp only [ints_len, bools_len, st1_len, arcs_len, lits_len, List.length_set, List.length_append, List.length_cons, List.length_nil, List.length_replicate]; omega)
  refine GoO.pure (ps_add rfl rfl rfl ?_) ?_
  · first | exact Nat.zero_lt_one | assumption | omega | exact InI.of (by omega) (by omega) | (simp only [ints_len, bools_len, st1_len, arcs_len, lits_len, List.length_set, List.length_append, List.length_cons, List.length_nil, List.length_replicate]; omega)
  refine GoO.pure (ps_move rfl rfl) ?_
  refine GoO.nil ?_
  refine GoK.code ?_
  refine GoC.block ?_
  refine GoC.loopE (σ := Nat × List Int × List Bool) [1, 2, 3, 12] (fun (r, far, known) => [(13, .i (r : Int))]) (fun (r, far, known) => [.one βf 3 1 (ints far), .one βk 4 1 (bools known)]) (fun n (r, fr, kn) => n = N + 1 - r ∧ r ≤ N + 1 ∧ fr.length = N ∧ kn.length = N ∧ Bd fr (r * 60) ∧ relaxN g.as (N + 1 - r) fr kn = relaxN g.as (N + 1) far known) (N + 1) (0, far, known) ?_ (by repeat (first | exact EnvLe.nil | refine EnvLe.cons rfl ?_)) (by exact (Take.cons _ _ _ _ _ (by first | exact Rem.p0 | exact Rem.p1 | exact Rem.p2 | exact Rem.p3 | exact Rem.p4 | exact Rem.p5 | exact Rem.p6 | exact Rem.p7 | exact Rem.p8 | exact Rem.p9 | exact Rem.p10 | exact Rem.p11 | exact Rem.p12 | exact Rem.p13) (Take.cons _ _ _ _ _ (by first | exact Rem.p0 | exact Rem.p1 | exact Rem.p2 | exact Rem.p3 | exact Rem.p4 | exact Rem.p5 | exact Rem.p6 | exact Rem.p7 | exact Rem.p8 | exact Rem.p9 | exact Rem.p10 | exact Rem.p11 | exact Rem.p12 | exact Rem.p13) (Take.nil _)))) ?_
  · exact ⟨by omega, by omega, hl1, hl2, by simpa using hbd, rfl⟩
  rintro n ⟨r, fr, kn⟩ ⟨rfl, hr, m1, m2, mb, mL⟩
  refine GoC.seq ?_
  refine GoC.region ?_
  refine GoO.pure (ps_lss rfl rfl rfl) ?_
  refine GoO.nil ?_
  refine GoK.code ?_
  refine GoC.seq ?_
  first | refine GoC.condD rfl (fun h8 => ?_) (fun h8 => ?_) | refine GoC.cond rfl (fun h8 => ?_) (fun h8 => ?_)
  · skip
    have hrlt : r < N + 1 := by omega
    have eR : N + 1 - r = (N + 1 - (r + 1)) + 1 := by omega
    refine GoC.skip ?_
    refine GoK.code ?_
    refine GoC.seq ?_
    refine GoC.block ?_
    refine GoC.seq ?_
    refine GoC.region ?_
    refine GoO.pure (ps_assign rfl rfl) ?_
    refine GoO.nil ?_
    refine GoK.code ?_
    refine GoC.seq ?_
    refine GoC.seq ?_
    refine GoC.region ?_
    first | refine GoO.pure (ps_fieldAddr rfl rfl) ?_ | refine GoO.pure (ps_fieldAddrR rfl rfl) ?_
    first | refine GoO.pure (ps_load rfl (by first | exact At.p0 | exact At.p1 | exact At.p2 | exact At.p3 | exact At.p4 | exact At.p5 | exact At.p6 | exact At.p7 | exact At.p8 | exact At.p9 | exact At.p10 | exact At.p11 | exact At.p12 | exact At.p13) (by first | exact At.p0 | exact At.p1 | exact At.p2 | exact At.p3 | exact At.p4 | exact At.p5 | exact At.p6 | exact At.p7 | exact At.p8 | exact At.p9 | exact At.p10 | exact At.p11 | exact At.p12 | exact At.p13) ?_ rfl rfl) ?_ | refine GoO.pure (ps_loadR rfl ?_ rfl rfl) ?_
    · first | exact Nat.zero_lt_one | assumption | omega | exact InI.of (by omega) (by omega) | (simp only [ints_len, bools_len, st1_len, arcs_len, lits_len, List.length_set, List.length_append, List.length_cons, List.length_nil, List.length_replicate]; omega)
    refine GoO.pure (ps_len rfl (by constructor) rfl) ?_
    refine GoO.pure (ps_move rfl rfl) ?_
    refine GoO.nil ?_
    refine GoK.code ?_
    refine GoC.block ?_
    refine GoC.loopE (σ := Nat × List Int × List Bool × Bool) [1, 2, 3, 12, 13, 16, 17] (fun (k, far, known, still) => [(18, .i (k : Int)), (7, .bo still)]) (fun (k, far, known, still) => [.one βf 3 1 (ints far), .one βk 4 1 (bools known)]) (fun n (k, f2, k2, still) => n = g.as.length - k ∧ RI g N (r * 60) (relaxPass g.as (fr, kn, true)) k (f2, k2, still)) (g.as.length) (0, fr, kn, true) ?_ (by repeat (first | exact EnvLe.nil | refine EnvLe.cons rfl ?_)) (by exact (Take.cons _ _ _ _ _ (by first | exact Rem.p0 | exact Rem.p1 | exact Rem.p2 | exact Rem.p3 | exact Rem.p4 | exact Rem.p5 | exact Rem.p6 | exact Rem.p7 | exact Rem.p8 | exact Rem.p9 | exact Rem.p10 | exact Rem.p11 | exact Rem.p12 | exact Rem.p13) (Take.cons _ _ _ _ _ (by first | exact Rem.p0 | exact Rem.p1 | exact Rem.p2 | exact Rem.p3 | exact Rem.p4 | exact Rem.p5 | exact Rem.p6 | exact Rem.p7 | exact Rem.p8 | exact Rem.p9 | exact Rem.p10 | exact Rem.p11 | exact Rem.p12 | exact Rem.p13) (Take.nil _)))) ?_
    · exact ⟨by omega, ⟨Nat.zero_le _, m1, m2, mb, rfl⟩⟩
    rintro n ⟨k, f2, k2, still⟩ ⟨rfl, hR⟩
    have r1 := hR.l1
    have r2 := hR.l2
    have r3 := hR.le
    simp only at r1 r2
    refine GoC.seq ?_
    refine GoC.region ?_
    refine GoO.pure (ps_lss rfl rfl rfl) ?_
    refine GoO.nil ?_
    refine GoK.code ?_
    refine GoC.seq ?_
    first | refine GoC.condD rfl (fun h15 => ?_) (fun h15 => ?_) | refine GoC.cond rfl (fun h15 => ?_) (fun h15 => ?_)
    · skip
      have hlt : k < g.as.length := by omega
      have ha := hg.arc _ (mem_getD hlt)
      have a1 := ha.f0
      have a2 := ha.f1
      have a3 := ha.t0
      have a4 := ha.t1
      have a5 := ha.c0
      have a6 := ha.c1
      have b1 := hR.bd (g.as.getD k ⟨0, 0, 0⟩).f.toNat
      simp only at b1
      refine GoC.skip ?_
      refine GoK.code ?_
      refine GoC.seq ?_
      refine GoC.block ?_
      refine GoC.seq ?_
      refine GoC.region ?_
      first | refine GoO.pure (ps_indexAddr0N rfl rfl ?_ rfl) ?_ | refine GoO.pure (ps_indexAddrRN rfl rfl ?_ rfl) ?_ | refine GoO.pure (ps_indexAddr0 rfl rfl ?_ rfl) ?_ | refine GoO.pure (ps_indexAddrN rfl rfl ?_ rfl) ?_ | refine GoO.pure (ps_indexAddrRN rfl rfl ?_ rfl) ?_ | refine GoO.pure (ps_indexAddr rfl rfl ?_ rfl) ?_ | refine GoO.pure (ps_indexAddrR rfl rfl ?_ rfl) ?_
      · first | exact Nat.zero_lt_one | assumption | omega | exact InI.of (by omega) (by omega) | (simp only [ints_len, bools_len, st1_len, arcs_len, lits_len, List.length_set, List.length_append, List.length_cons, List.length_nil, List.length_replicate]; omega)
      first | refine GoO.pure (ps_loadAg rfl (by first | exact At.p0 | exact At.p1 | exact At.p2 | exact At.p3 | exact At.p4 | exact At.p5 | exact At.p6 | exact At.p7 | exact At.p8 | exact At.p9 | exact At.p10 | exact At.p11 | exact At.p12 | exact At.p13) (by first | exact At.p0 | exact At.p1 | exact At.p2 | exact At.p3 | exact At.p4 | exact At.p5 | exact At.p6 | exact At.p7 | exact At.p8 | exact At.p9 | exact At.p10 | exact At.p11 | exact At.p12 | exact At.p13) ?_ rfl rfl) ?_ | refine GoO.pure (ps_loadAgR rfl ?_ rfl rfl) ?_
      · first | exact Nat.zero_lt_one | assumption | omega | exact InI.of (by omega) (by omega) | (simp only [ints_len, bools_len, st1_len, arcs_len, lits_len, List.length_set, List.length_append, List.length_cons, List.length_nil, List.length_replicate]; omega)
      refine GoO.effB (ef_alloc rfl) (fun β18 => ?_)
      refine GoO.eff1 (ef_storeAg rfl rfl (by first | exact At.p0 | exact At.p1 | exact At.p2 | exact At.p3 | exact At.p4 | exact At.p5 | exact At.p6 | exact At.p7 | exact At.p8 | exact At.p9 | exact At.p10 | exact At.p11 | exact At.p12 | exact At.p13) upd_whole Nat.zero_lt_one rfl) ?_
      refine GoO.nil ?_
      refine GoK.code ?_
      refine GoC.seq ?_
      refine GoC.drawA (.q 0 (.q 1 (.q 2 (.q 3 (.q 4 (.q 5 (.q 6 (.q 7 (.q 8 (.q 9 (.q 10 (.q 11 (.q 12 (.q 13 (.q 14 (.q 15 (.q 16 (.q 17 (.q 18 (.q 19 (.q 20 (.q 21 (.q 22 (.q 23 (.q 24 (.q 25 (.q 26 (.q 27 (.q 28 (.done)))))))))))))))))))))))))))))) follows (by kernel_rfl) ?_
      refine GoP.qN rfl (ps_move rfl rfl) ?_
      first | refine GoP.qN rfl (ps_fieldAddr rfl rfl) ?_ | refine GoP.qN rfl (ps_fieldAddrR rfl rfl) ?_
      first | refine GoP.qN rfl (ps_load rfl (by first | exact At.p0 | exact At.p1 | exact At.p2 | exact At.p3 | exact At.p4 | exact At.p5 | exact At.p6 | exact At.p7 | exact At.p8 | exact At.p9 | exact At.p10 | exact At.p11 | exact At.p12 | exact At.p13) (by first | exact At.p0 | exact At.p1 | exact At.p2 | exact At.p3 | exact At.p4 | exact At.p5 | exact At.p6 | exact At.p7 | exact At.p8 | exact At.p9 | exact At.p10 | exact At.p11 | exact At.p12 | exact At.p13) ?_ rfl rfl) ?_ | refine GoP.qN rfl (ps_loadR rfl ?_ rfl rfl) ?_
      · first | exact Nat.zero_lt_one | assumption | omega | exact InI.of (by omega) (by omega) | (simp only [ints_len, bools_len, st1_len, arcs_len, lits_len, List.length_set, List.length_append, List.length_cons, List.length_nil, List.length_replicate]; omega)
      first | refine GoP.qN rfl (ps_indexAddr0N rfl rfl ?_ rfl) ?_ | refine GoP.qN rfl (ps_indexAddrRN rfl rfl ?_ rfl) ?_ | refine GoP.qN rfl (ps_indexAddr0 rfl rfl ?_ rfl) ?_ | refine GoP.qN rfl (ps_indexAddrN rfl rfl ?_ rfl) ?_ | refine GoP.qN rfl (ps_indexAddrRN rfl rfl ?_ rfl) ?_ | refine GoP.qN rfl (ps_indexAddr rfl rfl ?_ rfl) ?_ | refine GoP.qN rfl (ps_indexAddrR rfl rfl ?_ rfl) ?_
      · first | exact Nat.zero_lt_one | assumption | omega | exact InI.of (by omega) (by omega) | (simp only [ints_len, bools_len, st1_len, arcs_len, lits_len, List.length_set, List.length_append, List.length_cons, List.length_nil, List.length_replicate]; omega)
      first | refine GoP.qN rfl (ps_load rfl (by first | exact At.p0 | exact At.p1 | exact At.p2 | exact At.p3 | exact At.p4 | exact At.p5 | exact At.p6 | exact At.p7 | exact At.p8 | exact At.p9 | exact At.p10 | exact At.p11 | exact At.p12 | exact At.p13) (by first | exact At.p0 | exact At.p1 | exact At.p2 | exact At.p3 | exact At.p4 | exact At.p5 | exact At.p6 | exact At.p7 | exact At.p8 | exact At.p9 | exact At.p10 | exact At.p11 | exact At.p12 | exact At.p13) ?_ rfl rfl) ?_ | refine GoP.qN rfl (ps_loadR rfl ?_ rfl rfl) ?_
      · first | exact Nat.zero_lt_one | assumption | omega | exact InI.of (by omega) (by omega) | (simp only [ints_len, bools_len, st1_len, arcs_len, lits_len, List.length_set, List.length_append, List.length_cons, List.length_nil, List.length_replicate]; omega)
      refine GoP.qN rfl (ps_move rfl rfl) ?_
      first | refine GoP.decideD 27 rfl (fun h26 => ?_) (fun h26 => ?_) | refine GoP.decide 27 rfl (fun h26 => ?_) (fun h26 => ?_)
      · skip
        refine GoP.qT rfl rfl rfl rfl (ps_move rfl rfl) ?_
        first | refine GoP.qT rfl rfl rfl rfl (ps_fieldAddr rfl rfl) ?_ | refine GoP.qT rfl rfl rfl rfl (ps_fieldAddrR rfl rfl) ?_
        first | refine GoP.qT rfl rfl rfl rfl (ps_load rfl (by first | exact At.p0 | exact At.p1 | exact At.p2 | exact At.p3 | exact At.p4 | exact At.p5 | exact At.p6 | exact At.p7 | exact At.p8 | exact At.p9 | exact At.p10 | exact At.p11 | exact At.p12 | exact At.p13) (by first | exact At.p0 | exact At.p1 | exact At.p2 | exact At.p3 | exact At.p4 | exact At.p5 | exact At.p6 | exact At.p7 | exact At.p8 | exact At.p9 | exact At.p10 | exact At.p11 | exact At.p12 | exact At.p13) ?_ rfl rfl) ?_ | refine GoP.qT rfl rfl rfl rfl (ps_loadR rfl ?_ rfl rfl) ?_
        · first | exact Nat.zero_lt_one | assumption | omega | exact InI.of (by omega) (by omega) | (simp only [ints_len, bools_len, st1_len, arcs_len, lits_len, List.length_set, List.length_append, List.length_cons, List.length_nil, List.length_replicate]; omega)
        first | refine GoP.qT rfl rfl rfl rfl (ps_indexAddr0N rfl rfl ?_ rfl) ?_ | refine GoP.qT rfl rfl rfl rfl (ps_indexAddrRN rfl rfl ?_ rfl) ?_ | refine GoP.qT rfl rfl rfl rfl (ps_indexAddr0 rfl rfl ?_ rfl) ?_ | refine GoP.qT rfl rfl rfl rfl (ps_indexAddrN rfl rfl ?_ rfl) ?_ | refine GoP.qT rfl rfl rfl rfl (ps_indexAddrRN rfl rfl ?_ rfl) ?_ | refine GoP.qT rfl rfl rfl rfl (ps_indexAddr rfl rfl ?_ rfl) ?_ | refine GoP.qT rfl rfl rfl rfl (ps_indexAddrR rfl rfl ?_ rfl) ?_
        · first | exact Nat.zero_lt_one | assumption | omega | exact InI.of (by omega) (by omega) | (simp only [ints_len, bools_len, st1_len, arcs_len, lits_len, List.length_set, List.length_append, List.length_cons, List.length_nil, List.length_replicate]; omega)
        first | refine GoP.qT rfl rfl rfl rfl (ps_load rfl (by first | exact At.p0 | exact At.p1 | exact At.p2 | exact At.p3 | exact At.p4 | exact At.p5 | exact At.p6 | exact At.p7 | exact At.p8 | exact At.p9 | exact At.p10 | exact At.p11 | exact At.p12 | exact At.p13) (by first | exact At.p0 | exact At.p1 | exact At.p2 | exact At.p3 | exact At.p4 | exact At.p5 | exact At.p6 | exact At.p7 | exact At.p8 | exact At.p9 | exact At.p10 | exact At.p11 | exact At.p12 | exact At.p13) ?_ rfl rfl) ?_ | refine GoP.qT rfl rfl rfl rfl (ps_loadR rfl ?_ rfl rfl) ?_
        · first | exact Nat.zero_lt_one | assumption | omega | exact InI.of (by omega) (by omega) | (simp only [ints_len, bools_len, st1_len, arcs_len, lits_len, List.length_set, List.length_append, List.length_cons, List.length_nil, List.length_replicate]; omega)
        first | refine GoP.qT rfl rfl rfl rfl (ps_notD rfl rfl) ?_ | refine GoP.qT rfl rfl rfl rfl (ps_not rfl rfl) ?_
        refine GoP.qT rfl rfl rfl rfl (ps_move rfl rfl) ?_
        first | refine GoP.decideD 34 rfl (fun h34 => ?_) (fun h34 => ?_) | refine GoP.decide 34 rfl (fun h34 => ?_) (fun h34 => ?_)
        · skip
          refine GoP.qF rfl rfl rfl rfl rfl ?_
          refine GoP.qF rfl rfl rfl rfl rfl ?_
          refine GoP.qF rfl rfl rfl rfl rfl ?_
          refine GoP.qF rfl rfl rfl rfl rfl ?_
          refine GoP.qF rfl rfl rfl rfl rfl ?_
          refine GoP.qF rfl rfl rfl rfl rfl ?_
          refine GoP.qF rfl rfl rfl rfl rfl ?_
          refine GoP.qF rfl rfl rfl rfl rfl ?_
          refine GoP.qF rfl rfl rfl rfl rfl ?_
          refine GoP.qF rfl rfl rfl rfl rfl ?_
          refine GoP.qF rfl rfl rfl rfl rfl ?_
          refine GoP.qF rfl rfl rfl rfl rfl ?_
          refine GoP.qF rfl rfl rfl rfl rfl ?_
          refine GoP.qF rfl rfl rfl rfl rfl ?_
          refine GoP.qT rfl rfl rfl rfl (ps_pickT rfl rfl rfl) ?_
          refine GoP.qN rfl (ps_pickT rfl rfl rfl) ?_
          refine GoP.done ?_
          refine GoK.code ?_
          refine GoC.condT rfl ?_
          refine GoC.drawP (.q 0 (.q 1 (.q 2 (.q 3 (.q 4 (.q 5 (.q 6 (.q 7 (.q 8 (.q 9 (.q 11 (.q 12 (.one 10 (.q 13 (.q 14 (.one 15 (.q 16 (.one 17 (.q 18 (.done)))))))))))))))))))) [(9, _, _, _)] follows (by kernel_rfl) (by exact (Take.cons _ _ _ _ _ (by first | exact Rem.p0 | exact Rem.p1 | exact Rem.p2 | exact Rem.p3 | exact Rem.p4 | exact Rem.p5 | exact Rem.p6 | exact Rem.p7 | exact Rem.p8 | exact Rem.p9 | exact Rem.p10 | exact Rem.p11 | exact Rem.p12 | exact Rem.p13) (Take.nil _))) ?_
          refine GoP.qN rfl (ps_move rfl rfl) ?_
          first | refine GoP.qN rfl (ps_fieldAddr rfl rfl) ?_ | refine GoP.qN rfl (ps_fieldAddrR rfl rfl) ?_
          first | refine GoP.qN rfl (ps_load rfl (by first | exact At.p0 | exact At.p1 | exact At.p2 | exact At.p3 | exact At.p4 | exact At.p5 | exact At.p6 | exact At.p7 | exact At.p8 | exact At.p9 | exact At.p10 | exact At.p11 | exact At.p12 | exact At.p13) (by first | exact At.p0 | exact At.p1 | exact At.p2 | exact At.p3 | exact At.p4 | exact At.p5 | exact At.p6 | exact At.p7 | exact At.p8 | exact At.p9 | exact At.p10 | exact At.p11 | exact At.p12 | exact At.p13) ?_ rfl rfl) ?_ | refine GoP.qN rfl (ps_loadR rfl ?_ rfl rfl) ?_
          · first | exact Nat.zero_lt_one | assumption | omega | exact InI.of (by omega) (by omega) | (simp only [ints_len, bools_len, st1_len, arcs_len, lits_len, List.length_set, List.length_append, List.length_cons, List.length_nil, List.length_replicate]; omega)
          refine GoP.qN rfl (ps_move rfl rfl) ?_
          first | refine GoP.qN rfl (ps_fieldAddr rfl rfl) ?_ | refine GoP.qN rfl (ps_fieldAddrR rfl rfl) ?_
          first | refine GoP.qN rfl (ps_load rfl (by first | exact At.p0 | exact At.p1 | exact At.p2 | exact At.p3 | exact At.p4 | exact At.p5 | exact At.p6 | exact At.p7 | exact At.p8 | exact At.p9 | exact At.p10 | exact At.p11 | exact At.p12 | exact At.p13) (by first | exact At.p0 | exact At.p1 | exact At.p2 | exact At.p3 | exact At.p4 | exact At.p5 | exact At.p6 | exact At.p7 | exact At.p8 | exact At.p9 | exact At.p10 | exact At.p11 | exact At.p12 | exact At.p13) ?_ rfl rfl) ?_ | refine GoP.qN rfl (ps_loadR rfl ?_ rfl rfl) ?_
          · first | exact Nat.zero_lt_one | assumption | omega | exact InI.of (by omega) (by omega) | (simp only [ints_len, bools_len, st1_len, arcs_len, lits_len, List.length_set, List.length_append, List.length_cons, List.length_nil, List.length_replicate]; omega)
          refine GoP.qN rfl (ps_move rfl rfl) ?_
          first | refine GoP.qN rfl (ps_fieldAddr rfl rfl) ?_ | refine GoP.qN rfl (ps_fieldAddrR rfl rfl) ?_
          first | refine GoP.qN rfl (ps_load rfl (by first | exact At.p0 | exact At.p1 | exact At.p2 | exact At.p3 | exact At.p4 | exact At.p5 | exact At.p6 | exact At.p7 | exact At.p8 | exact At.p9 | exact At.p10 | exact At.p11 | exact At.p12 | exact At.p13) (by first | exact At.p0 | exact At.p1 | exact At.p2 | exact At.p3 | exact At.p4 | exact At.p5 | exact At.p6 | exact At.p7 | exact At.p8 | exact At.p9 | exact At.p10 | exact At.p11 | exact At.p12 | exact At.p13) ?_ rfl rfl) ?_ | refine GoP.qN rfl (ps_loadR rfl ?_ rfl rfl) ?_
          · first | exact Nat.zero_lt_one | assumption | omega | exact InI.of (by omega) (by omega) | (simp only [ints_len, bools_len, st1_len, arcs_len, lits_len, List.length_set, List.length_append, List.length_cons, List.length_nil, List.length_replicate]; omega)
          first | refine GoP.qN rfl (ps_indexAddr0N rfl rfl ?_ rfl) ?_ | refine GoP.qN rfl (ps_indexAddrRN rfl rfl ?_ rfl) ?_ | refine GoP.qN rfl (ps_indexAddr0 rfl rfl ?_ rfl) ?_ | refine GoP.qN rfl (ps_indexAddrN rfl rfl ?_ rfl) ?_ | refine GoP.qN rfl (ps_indexAddrRN rfl rfl ?_ rfl) ?_ | refine GoP.qN rfl (ps_indexAddr rfl rfl ?_ rfl) ?_ | refine GoP.qN rfl (ps_indexAddrR rfl rfl ?_ rfl) ?_
          · first | exact Nat.zero_lt_one | assumption | omega | exact InI.of (by omega) (by omega) | (simp only [ints_len, bools_len, st1_len, arcs_len, lits_len, List.length_set, List.length_append, List.length_cons, List.length_nil, List.length_replicate]; omega)
          first | refine GoP.qN rfl (ps_fieldAddr rfl rfl) ?_ | refine GoP.qN rfl (ps_fieldAddrR rfl rfl) ?_
          first | refine GoP.qN rfl (ps_load rfl (by first | exact At.p0 | exact At.p1 | exact At.p2 | exact At.p3 | exact At.p4 | exact At.p5 | exact At.p6 | exact At.p7 | exact At.p8 | exact At.p9 | exact At.p10 | exact At.p11 | exact At.p12 | exact At.p13) (by first | exact At.p0 | exact At.p1 | exact At.p2 | exact At.p3 | exact At.p4 | exact At.p5 | exact At.p6 | exact At.p7 | exact At.p8 | exact At.p9 | exact At.p10 | exact At.p11 | exact At.p12 | exact At.p13) ?_ rfl rfl) ?_ | refine GoP.qN rfl (ps_loadR rfl ?_ rfl rfl) ?_
          · first | exact Nat.zero_lt_one | assumption | omega | exact InI.of (by omega) (by omega) | (simp only [ints_len, bools_len, st1_len, arcs_len, lits_len, List.length_set, List.length_append, List.length_cons, List.length_nil, List.length_replicate]; omega)
          first | refine GoP.oneN rfl (ps_load rfl (by first | exact At.p0 | exact At.p1 | exact At.p2 | exact At.p3 | exact At.p4 | exact At.p5 | exact At.p6 | exact At.p7 | exact At.p8 | exact At.p9 | exact At.p10 | exact At.p11 | exact At.p12 | exact At.p13) (by first | exact At.p0 | exact At.p1 | exact At.p2 | exact At.p3 | exact At.p4 | exact At.p5 | exact At.p6 | exact At.p7 | exact At.p8 | exact At.p9 | exact At.p10 | exact At.p11 | exact At.p12 | exact At.p13) ?_ rfl rfl) (by exact (Take.cons _ _ _ _ _ (by first | exact Rem.p0 | exact Rem.p1 | exact Rem.p2 | exact Rem.p3 | exact Rem.p4 | exact Rem.p5 | exact Rem.p6 | exact Rem.p7 | exact Rem.p8 | exact Rem.p9 | exact Rem.p10 | exact Rem.p11 | exact Rem.p12 | exact Rem.p13) (Take.nil _))) ?_ | refine GoP.oneN rfl (ps_loadR rfl ?_ rfl rfl) (by exact (Take.cons _ _ _ _ _ (by first | exact Rem.p0 | exact Rem.p1 | exact Rem.p2 | exact Rem.p3 | exact Rem.p4 | exact Rem.p5 | exact Rem.p6 | exact Rem.p7 | exact Rem.p8 | exact Rem.p9 | exact Rem.p10 | exact Rem.p11 | exact Rem.p12 | exact Rem.p13) (Take.nil _))) ?_
          · first | exact Nat.zero_lt_one | assumption | omega | exact InI.of (by omega) (by omega) | (simp only [ints_len, bools_len, st1_len, arcs_len, lits_len, List.length_set, List.length_append, List.length_cons, List.length_nil, List.length_replicate]; omega)
          refine GoP.qN rfl (ps_add rfl rfl rfl ?_) ?_
          · first | exact Nat.zero_lt_one | assumption | omega | exact InI.of (by omega) (by omega) | (simp only [ints_len, bools_len, st1_len, arcs_len, lits_len, List.length_set, List.length_append, List.length_cons, List.length_nil, List.length_replicate]; omega)
          first | refine GoP.qN rfl (ps_indexAddr0N rfl rfl ?_ rfl) ?_ | refine GoP.qN rfl (ps_indexAddrRN rfl rfl ?_ rfl) ?_ | refine GoP.qN rfl (ps_indexAddr0 rfl rfl ?_ rfl) ?_ | refine GoP.qN rfl (ps_indexAddrN rfl rfl ?_ rfl) ?_ | refine GoP.qN rfl (ps_indexAddrRN rfl rfl ?_ rfl) ?_ | refine GoP.qN rfl (ps_indexAddr rfl rfl ?_ rfl) ?_ | refine GoP.qN rfl (ps_indexAddrR rfl rfl ?_ rfl) ?_
          · first | exact Nat.zero_lt_one | assumption | omega | exact InI.of (by omega) (by omega) | (simp only [ints_len, bools_len, st1_len, arcs_len, lits_len, List.length_set, List.length_append, List.length_cons, List.length_nil, List.length_replicate]; omega)
          refine GoP.one1 rfl trivial (ef_store rfl rfl rfl (by first | exact At.p0 | exact At.p1 | exact At.p2 | exact At.p3 | exact At.p4 | exact At.p5 | exact At.p6 | exact At.p7 | exact At.p8 | exact At.p9 | exact At.p10 | exact At.p11 | exact At.p12 | exact At.p13) (by first | exact upd_ints | exact upd_bools | exact upd_st1) ?_ rfl) (by exact (Take.cons _ _ _ _ _ (by first | exact Rem.p0 | exact Rem.p1 | exact Rem.p2 | exact Rem.p3 | exact Rem.p4 | exact Rem.p5 | exact Rem.p6 | exact Rem.p7 | exact Rem.p8 | exact Rem.p9 | exact Rem.p10 | exact Rem.p11 | exact Rem.p12 | exact Rem.p13) (Take.cons _ _ _ _ _ (by first | exact Rem.p0 | exact Rem.p1 | exact Rem.p2 | exact Rem.p3 | exact Rem.p4 | exact Rem.p5 | exact Rem.p6 | exact Rem.p7 | exact Rem.p8 | exact Rem.p9 | exact Rem.p10 | exact Rem.p11 | exact Rem.p12 | exact Rem.p13) (Take.nil _)))) ?_
          · first | exact Nat.zero_lt_one | assumption | omega | exact InI.of (by omega) (by omega) | (simp only [ints_len, bools_len, st1_len, arcs_len, lits_len, List.length_set, List.length_append, List.length_cons, List.length_nil, List.length_replicate]; omega)
          first | refine GoP.qN rfl (ps_indexAddr0N rfl rfl ?_ rfl) ?_ | refine GoP.qN rfl (ps_indexAddrRN rfl rfl ?_ rfl) ?_ | refine GoP.qN rfl (ps_indexAddr0 rfl rfl ?_ rfl) ?_ | refine GoP.qN rfl (ps_indexAddrN rfl rfl ?_ rfl) ?_ | refine GoP.qN rfl (ps_indexAddrRN rfl rfl ?_ rfl) ?_ | refine GoP.qN rfl (ps_indexAddr rfl rfl ?_ rfl) ?_ | refine GoP.qN rfl (ps_indexAddrR rfl rfl ?_ rfl) ?_
          · first | exact Nat.zero_lt_one | assumption | omega | exact InI.of (by omega) (by omega) | (simp only [ints_len, bools_len, st1_len, arcs_len, lits_len, List.length_set, List.length_append, List.length_cons, List.length_nil, List.length_replicate]; omega)
          refine GoP.one1 rfl trivial (ef_store rfl rfl rfl (by first | exact At.p0 | exact At.p1 | exact At.p2 | exact At.p3 | exact At.p4 | exact At.p5 | exact At.p6 | exact At.p7 | exact At.p8 | exact At.p9 | exact At.p10 | exact At.p11 | exact At.p12 | exact At.p13) (by first | exact upd_ints | exact upd_bools | exact upd_st1) ?_ rfl) (by exact (Take.cons _ _ _ _ _ (by first | exact Rem.p0 | exact Rem.p1 | exact Rem.p2 | exact Rem.p3 | exact Rem.p4 | exact Rem.p5 | exact Rem.p6 | exact Rem.p7 | exact Rem.p8 | exact Rem.p9 | exact Rem.p10 | exact Rem.p11 | exact Rem.p12 | exact Rem.p13) (Take.cons _ _ _ _ _ (by first | exact Rem.p0 | exact Rem.p1 | exact Rem.p2 | exact Rem.p3 | exact Rem.p4 | exact Rem.p5 | exact Rem.p6 | exact Rem.p7 | exact Rem.p8 | exact Rem.p9 | exact Rem.p10 | exact Rem.p11 | exact Rem.p12 | exact Rem.p13) (Take.nil _)))) ?_
          · first | exact Nat.zero_lt_one | assumption | omega | exact InI.of (by omega) (by omega) | (simp only [ints_len, bools_len, st1_len, arcs_len, lits_len, List.length_set, List.length_append, List.length_cons, List.length_nil, List.length_replicate]; omega)
          refine GoP.qN rfl (ps_assign rfl rfl) ?_
          refine GoP.done ?_
          refine GoK.blk ?_
          refine GoK.code ?_
          refine GoC.region ?_
          refine GoO.pure (ps_add rfl rfl rfl ?_) ?_
          · first | exact Nat.zero_lt_one | assumption | omega | exact InI.of (by omega) (by omega) | (simp only [ints_len, bools_len, st1_len, arcs_len, lits_len, List.length_set, List.length_append, List.length_cons, List.length_nil, List.length_replicate]; omega)
          refine GoO.pure (ps_move rfl rfl) ?_
          refine GoO.nil ?_
          refine GoK.againE (g.as.length - (k + 1)) ((k + 1, _, _, _)) ?_ ?_ (by repeat (first | exact EnvLe.nil | refine EnvLe.cons rfl ?_)) (by repeat (first | exact Tk.all _ | exact Tk.nil | refine Tk.cons (by first | exact Rem.p0 | exact Rem.p1 | exact Rem.p2 | exact Rem.p3 | exact Rem.p4 | exact Rem.p5 | exact Rem.p6 | exact Rem.p7 | exact Rem.p8 | exact Rem.p9 | exact Rem.p10 | exact Rem.p11 | exact Rem.p12 | exact Rem.p13) ?_))
          · omega
          · first | exact ⟨rfl, hR.no1 hlt ‹_›⟩ | exact ⟨rfl, hR.no2 hlt ‹_› ‹_›⟩ | exact ⟨rfl, hR.yes hg hlt ‹_› (.inl ‹_›)⟩ | exact ⟨rfl, hR.yes hg hlt ‹_› (.inr ‹_›)⟩
        · skip
          refine GoP.qT rfl rfl rfl rfl (ps_move rfl rfl) ?_
          first | refine GoP.qT rfl rfl rfl rfl (ps_fieldAddr rfl rfl) ?_ | refine GoP.qT rfl rfl rfl rfl (ps_fieldAddrR rfl rfl) ?_
          first | refine GoP.qT rfl rfl rfl rfl (ps_load rfl (by first | exact At.p0 | exact At.p1 | exact At.p2 | exact At.p3 | exact At.p4 | exact At.p5 | exact At.p6 | exact At.p7 | exact At.p8 | exact At.p9 | exact At.p10 | exact At.p11 | exact At.p12 | exact At.p13) (by first | exact At.p0 | exact At.p1 | exact At.p2 | exact At.p3 | exact At.p4 | exact At.p5 | exact At.p6 | exact At.p7 | exact At.p8 | exact At.p9 | exact At.p10 | exact At.p11 | exact At.p12 | exact At.p13) ?_ rfl rfl) ?_ | refine GoP.qT rfl rfl rfl rfl (ps_loadR rfl ?_ rfl rfl) ?_
          · first | exact Nat.zero_lt_one | assumption | omega | exact InI.of (by omega) (by omega) | (simp only [ints_len, bools_len, st1_len, arcs_len, lits_len, List.length_set, List.length_append, List.length_cons, List.length_nil, List.length_replicate]; omega)
          first | refine GoP.qT rfl rfl rfl rfl (ps_indexAddr0N rfl rfl ?_ rfl) ?_ | refine GoP.qT rfl rfl rfl rfl (ps_indexAddrRN rfl rfl ?_ rfl) ?_ | refine GoP.qT rfl rfl rfl rfl (ps_indexAddr0 rfl rfl ?_ rfl) ?_ | refine GoP.qT rfl rfl rfl rfl (ps_indexAddrN rfl rfl ?_ rfl) ?_ | refine GoP.qT rfl rfl rfl rfl (ps_indexAddrRN rfl rfl ?_ rfl) ?_ | refine GoP.qT rfl rfl rfl rfl (ps_indexAddr rfl rfl ?_ rfl) ?_ | refine GoP.qT rfl rfl rfl rfl (ps_indexAddrR rfl rfl ?_ rfl) ?_
          · first | exact Nat.zero_lt_one | assumption | omega | exact InI.of (by omega) (by omega) | (simp only [ints_len, bools_len, st1_len, arcs_len, lits_len, List.length_set, List.length_append, List.length_cons, List.length_nil, List.length_replicate]; omega)
          first | refine GoP.qT rfl rfl rfl rfl (ps_load rfl (by first | exact At.p0 | exact At.p1 | exact At.p2 | exact At.p3 | exact At.p4 | exact At.p5 | exact At.p6 | exact At.p7 | exact At.p8 | exact At.p9 | exact At.p10 | exact At.p11 | exact At.p12 | exact At.p13) (by first | exact At.p0 | exact At.p1 | exact At.p2 | exact At.p3 | exact At.p4 | exact At.p5 | exact At.p6 | exact At.p7 | exact At.p8 | exact At.p9 | exact At.p10 | exact At.p11 | exact At.p12 | exact At.p13) ?_ rfl rfl) ?_ | refine GoP.qT rfl rfl rfl rfl (ps_loadR rfl ?_ rfl rfl) ?_
          · first | exact Nat.zero_lt_one | assumption | omega | exact InI.of (by omega) (by omega) | (simp only [ints_len, bools_len, st1_len, arcs_len, lits_len, List.length_set, List.length_append, List.length_cons, List.length_nil, List.length_replicate]; omega)
          first | refine GoP.qT rfl rfl rfl rfl (ps_fieldAddr rfl rfl) ?_ | refine GoP.qT rfl rfl rfl rfl (ps_fieldAddrR rfl rfl) ?_
          first | refine GoP.qT rfl rfl rfl rfl (ps_load rfl (by first | exact At.p0 | exact At.p1 | exact At.p2 | exact At.p3 | exact At.p4 | exact At.p5 | exact At.p6 | exact At.p7 | exact At.p8 | exact At.p9 | exact At.p10 | exact At.p11 | exact At.p12 | exact At.p13) (by first | exact At.p0 | exact At.p1 | exact At.p2 | exact At.p3 | exact At.p4 | exact At.p5 | exact At.p6 | exact At.p7 | exact At.p8 | exact At.p9 | exact At.p10 | exact At.p11 | exact At.p12 | exact At.p13) ?_ rfl rfl) ?_ | refine GoP.qT rfl rfl rfl rfl (ps_loadR rfl ?_ rfl rfl) ?_
          · first | exact Nat.zero_lt_one | assumption | omega | exact InI.of (by omega) (by omega) | (simp only [ints_len, bools_len, st1_len, arcs_len, lits_len, List.length_set, List.length_append, List.length_cons, List.length_nil, List.length_replicate]; omega)
          refine GoP.qT rfl rfl rfl rfl (ps_add rfl rfl rfl ?_) ?_
          · first | exact Nat.zero_lt_one | assumption | omega | exact InI.of (by omega) (by omega) | (simp only [ints_len, bools_len, st1_len, arcs_len, lits_len, List.length_set, List.length_append, List.length_cons, List.length_nil, List.length_replicate]; omega)
          refine GoP.qT rfl rfl rfl rfl (ps_move rfl rfl) ?_
          first | refine GoP.qT rfl rfl rfl rfl (ps_fieldAddr rfl rfl) ?_ | refine GoP.qT rfl rfl rfl rfl (ps_fieldAddrR rfl rfl) ?_
          first | refine GoP.qT rfl rfl rfl rfl (ps_load rfl (by first | exact At.p0 | exact At.p1 | exact At.p2 | exact At.p3 | exact At.p4 | exact At.p5 | exact At.p6 | exact At.p7 | exact At.p8 | exact At.p9 | exact At.p10 | exact At.p11 | exact At.p12 | exact At.p13) (by first | exact At.p0 | exact At.p1 | exact At.p2 | exact At.p3 | exact At.p4 | exact At.p5 | exact At.p6 | exact At.p7 | exact At.p8 | exact At.p9 | exact At.p10 | exact At.p11 | exact At.p12 | exact At.p13) ?_ rfl rfl) ?_ | refine GoP.qT rfl rfl rfl rfl (ps_loadR rfl ?_ rfl rfl) ?_
          · first | exact Nat.zero_lt_one | assumption | omega | exact InI.of (by omega) (by omega) | (simp only [ints_len, bools_len, st1_len, arcs_len, lits_len, List.length_set, List.length_append, List.length_cons, List.length_nil, List.length_replicate]; omega)
          first | refine GoP.qT rfl rfl rfl rfl (ps_indexAddr0N rfl rfl ?_ rfl) ?_ | refine GoP.qT rfl rfl rfl rfl (ps_indexAddrRN rfl rfl ?_ rfl) ?_ | refine GoP.qT rfl rfl rfl rfl (ps_indexAddr0 rfl rfl ?_ rfl) ?_ | refine GoP.qT rfl rfl rfl rfl (ps_indexAddrN rfl rfl ?_ rfl) ?_ | refine GoP.qT rfl rfl rfl rfl (ps_indexAddrRN rfl rfl ?_ rfl) ?_ | refine GoP.qT rfl rfl rfl rfl (ps_indexAddr rfl rfl ?_ rfl) ?_ | refine GoP.qT rfl rfl rfl rfl (ps_indexAddrR rfl rfl ?_ rfl) ?_
          · first | exact Nat.zero_lt_one | assumption | omega | exact InI.of (by omega) (by omega) | (simp only [ints_len, bools_len, st1_len, arcs_len, lits_len, List.length_set, List.length_append, List.length_cons, List.length_nil, List.length_replicate]; omega)
          first | refine GoP.qT rfl rfl rfl rfl (ps_load rfl (by first | exact At.p0 | exact At.p1 | exact At.p2 | exact At.p3 | exact At.p4 | exact At.p5 | exact At.p6 | exact At.p7 | exact At.p8 | exact At.p9 | exact At.p10 | exact At.p11 | exact At.p12 | exact At.p13) (by first | exact At.p0 | exact At.p1 | exact At.p2 | exact At.p3 | exact At.p4 | exact At.p5 | exact At.p6 | exact At.p7 | exact At.p8 | exact At.p9 | exact At.p10 | exact At.p11 | exact At.p12 | exact At.p13) ?_ rfl rfl) ?_ | refine GoP.qT rfl rfl rfl rfl (ps_loadR rfl ?_ rfl rfl) ?_
          · first | exact Nat.zero_lt_one | assumption | omega | exact InI.of (by omega) (by omega) | (simp only [ints_len, bools_len, st1_len, arcs_len, lits_len, List.length_set, List.length_append, List.length_cons, List.length_nil, List.length_replicate]; omega)
          refine GoP.qT rfl rfl rfl rfl (ps_lss rfl rfl rfl) ?_
          refine GoP.qT rfl rfl rfl rfl (ps_pickF rfl rfl rfl) ?_
          refine GoP.qN rfl (ps_pickT rfl rfl rfl) ?_
          refine GoP.done ?_
          refine GoK.code ?_
          first | refine GoC.condD rfl (fun h74 => ?_) (fun h74 => ?_) | refine GoC.cond rfl (fun h74 => ?_) (fun h74 => ?_)
          · skip
            refine GoC.drawP (.q 0 (.q 1 (.q 2 (.q 3 (.q 4 (.q 5 (.q 6 (.q 7 (.q 8 (.q 9 (.q 11 (.q 12 (.one 10 (.q 13 (.q 14 (.one 15 (.q 16 (.one 17 (.q 18 (.done)))))))))))))))))))) [(9, _, _, _)] follows (by kernel_rfl) (by exact (Take.cons _ _ _ _ _ (by first | exact Rem.p0 | exact Rem.p1 | exact Rem.p2 | exact Rem.p3 | exact Rem.p4 | exact Rem.p5 | exact Rem.p6 | exact Rem.p7 | exact Rem.p8 | exact Rem.p9 | exact Rem.p10 | exact Rem.p11 | exact Rem.p12 | exact Rem.p13) (Take.nil _))) ?_
            refine GoP.qN rfl (ps_move rfl rfl) ?_
            first | refine GoP.qN rfl (ps_fieldAddr rfl rfl) ?_ | refine GoP.qN rfl (ps_fieldAddrR rfl rfl) ?_
            first | refine GoP.qN rfl (ps_load rfl (by first | exact At.p0 | exact At.p1 | exact At.p2 | exact At.p3 | exact At.p4 | exact At.p5 | exact At.p6 | exact At.p7 | exact At.p8 | exact At.p9 | exact At.p10 | exact At.p11 | exact At.p12 | exact At.p13) (by first | exact At.p0 | exact At.p1 | exact At.p2 | exact At.p3 | exact At.p4 | exact At.p5 | exact At.p6 | exact At.p7 | exact At.p8 | exact At.p9 | exact At.p10 | exact At.p11 | exact At.p12 | exact At.p13) ?_ rfl rfl) ?_ | refine GoP.qN rfl (ps_loadR rfl ?_ rfl rfl) ?_
            · first | exact Nat.zero_lt_one | assumption | omega | exact InI.of (by omega) (by omega) | (simp only [ints_len, bools_len, st1_len, arcs_len, lits_len, List.length_set, List.length_append, List.length_cons, List.length_nil, List.length_replicate]; omega)
            refine GoP.qN rfl (ps_move rfl rfl) ?_
            first | refine GoP.qN rfl (ps_fieldAddr rfl rfl) ?_ | refine GoP.qN rfl (ps_fieldAddrR rfl rfl) ?_
            first | refine GoP.qN rfl (ps_load rfl (by first | exact At.p0 | exact At.p1 | exact At.p2 | exact At.p3 | exact At.p4 | exact At.p5 | exact At.p6 | exact At.p7 | exact At.p8 | exact At.p9 | exact At.p10 | exact At.p11 | exact At.p12 | exact At.p13) (by first | exact At.p0 | exact At.p1 | exact At.p2 | exact At.p3 | exact At.p4 | exact At.p5 | exact At.p6 | exact At.p7 | exact At.p8 | exact At.p9 | exact At.p10 | exact At.p11 | exact At.p12 | exact At.p13) ?_ rfl rfl) ?_ | refine GoP.qN rfl (ps_loadR rfl ?_ rfl rfl) ?_
            · first | exact Nat.zero_lt_one | assumption | omega | exact InI.of (by omega) (by omega) | (simp only [ints_len, bools_len, st1_len, arcs_len, lits_len, List.length_set, List.length_append, List.length_cons, List.length_nil, List.length_replicate]; omega)
            refine GoP.qN rfl (ps_move rfl rfl) ?_
            first | refine GoP.qN rfl (ps_fieldAddr rfl rfl) ?_ | refine GoP.qN rfl (ps_fieldAddrR rfl rfl) ?_
            first | refine GoP.qN rfl (ps_load rfl (by first | exact At.p0 | exact At.p1 | exact At.p2 | exact At.p3 | exact At.p4 | exact At.p5 | exact At.p6 | exact At.p7 | exact At.p8 | exact At.p9 | exact At.p10 | exact At.p11 | exact At.p12 | exact At.p13) (by first | exact At.p0 | exact At.p1 | exact At.p2 | exact At.p3 | exact At.p4 | exact At.p5 | exact At.p6 | exact At.p7 | exact At.p8 | exact At.p9 | exact At.p10 | exact At.p11 | exact At.p12 | exact At.p13) ?_ rfl rfl) ?_ | refine GoP.qN rfl (ps_loadR rfl ?_ rfl rfl) ?_
            · first | exact Nat.zero_lt_one | assumption | omega | exact InI.of (by omega) (by omega) | (simp only [ints_len, bools_len, st1_len, arcs_len, lits_len, List.length_set, List.length_append, List.length_cons, List.length_nil, List.length_replicate]; omega)
            first | refine GoP.qN rfl (ps_indexAddr0N rfl rfl ?_ rfl) ?_ | refine GoP.qN rfl (ps_indexAddrRN rfl rfl ?_ rfl) ?_ | refine GoP.qN rfl (ps_indexAddr0 rfl rfl ?_ rfl) ?_ | refine GoP.qN rfl (ps_indexAddrN rfl rfl ?_ rfl) ?_ | refine GoP.qN rfl (ps_indexAddrRN rfl rfl ?_ rfl) ?_ | refine GoP.qN rfl (ps_indexAddr rfl rfl ?_ rfl) ?_ | refine GoP.qN rfl (ps_indexAddrR rfl rfl ?_ rfl) ?_
            · first | exact Nat.zero_lt_one | assumption | omega | exact InI.of (by omega) (by omega) | (simp only [ints_len, bools_len, st1_len, arcs_len, lits_len, List.length_set, List.length_append, List.length_cons, List.length_nil, List.length_replicate]; omega)
            first | refine GoP.qN rfl (ps_fieldAddr rfl rfl) ?_ | refine GoP.qN rfl (ps_fieldAddrR rfl rfl) ?_
            first | refine GoP.qN rfl (ps_load rfl (by first | exact At.p0 | exact At.p1 | exact At.p2 | exact At.p3 | exact At.p4 | exact At.p5 | exact At.p6 | exact At.p7 | exact At.p8 | exact At.p9 | exact At.p10 | exact At.p11 | exact At.p12 | exact At.p13) (by first | exact At.p0 | exact At.p1 | exact At.p2 | exact At.p3 | exact At.p4 | exact At.p5 | exact At.p6 | exact At.p7 | exact At.p8 | exact At.p9 | exact At.p10 | exact At.p11 | exact At.p12 | exact At.p13) ?_ rfl rfl) ?_ | refine GoP.qN rfl (ps_loadR rfl ?_ rfl rfl) ?_
            · first | exact Nat.zero_lt_one | assumption | omega | exact InI.of (by omega) (by omega) | (simp only [ints_len, bools_len, st1_len, arcs_len, lits_len, List.length_set, List.length_append, List.length_cons, List.length_nil, List.length_replicate]; omega)
            first | refine GoP.oneN rfl (ps_load rfl (by first | exact At.p0 | exact At.p1 | exact At.p2 | exact At.p3 | exact At.p4 | exact At.p5 | exact At.p6 | exact At.p7 | exact At.p8 | exact At.p9 | exact At.p10 | exact At.p11 | exact At.p12 | exact At.p13) (by first | exact At.p0 | exact At.p1 | exact At.p2 | exact At.p3 | exact At.p4 | exact At.p5 | exact At.p6 | exact At.p7 | exact At.p8 | exact At.p9 | exact At.p10 | exact At.p11 | exact At.p12 | exact At.p13) ?_ rfl rfl) (by exact (Take.cons _ _ _ _ _ (by first | exact Rem.p0 | exact Rem.p1 | exact Rem.p2 | exact Rem.p3 | exact Rem.p4 | exact Rem.p5 | exact Rem.p6 | exact Rem.p7 | exact Rem.p8 | exact Rem.p9 | exact Rem.p10 | exact Rem.p11 | exact Rem.p12 | exact Rem.p13) (Take.nil _))) ?_ | refine GoP.oneN rfl (ps_loadR rfl ?_ rfl rfl) (by exact (Take.cons _ _ _ _ _ (by first | exact Rem.p0 | exact Rem.p1 | exact Rem.p2 | exact Rem.p3 | exact Rem.p4 | exact Rem.p5 | exact Rem.p6 | exact Rem.p7 | exact Rem.p8 | exact Rem.p9 | exact Rem.p10 | exact Rem.p11 | exact Rem.p12 | exact Rem.p13) (Take.nil _))) ?_
            · first | exact Nat.zero_lt_one | assumption | omega | exact InI.of (by omega) (by omega) | (simp only [ints_len, bools_len, st1_len, arcs_len, lits_len, List.length_set, List.length_append, List.length_cons, List.length_nil, List.length_replicate]; omega)
            refine GoP.qN rfl (ps_add rfl rfl rfl ?_) ?_
            · first | exact Nat.zero_lt_one | assumption | omega | exact InI.of (by omega) (by omega) | (simp only [ints_len, bools_len, st1_len, arcs_len, lits_len, List.length_set, List.length_append, List.length_cons, List.length_nil, List.length_replicate]; omega)
            first | refine GoP.qN rfl (ps_indexAddr0N rfl rfl ?_ rfl) ?_ | refine GoP.qN rfl (ps_indexAddrRN rfl rfl ?_ rfl) ?_ | refine GoP.qN rfl (ps_indexAddr0 rfl rfl ?_ rfl) ?_ | refine GoP.qN rfl (ps_indexAddrN rfl rfl ?_ rfl) ?_ | refine GoP.qN rfl (ps_indexAddrRN rfl rfl ?_ rfl) ?_ | refine GoP.qN rfl (ps_indexAddr rfl rfl ?_ rfl) ?_ | refine GoP.qN rfl (ps_indexAddrR rfl rfl ?_ rfl) ?_
            · first | exact Nat.zero_lt_one | assumption | omega | exact InI.of (by omega) (by omega) | (simp only [ints_len, bools_len, st1_len, arcs_len, lits_len, List.length_set, List.length_append, List.length_cons, List.length_nil, List.length_replicate]; omega)
            refine GoP.one1 rfl trivial (ef_store rfl rfl rfl (by first | exact At.p0 | exact At.p1 | exact At.p2 | exact At.p3 | exact At.p4 | exact At.p5 | exact At.p6 | exact At.p7 | exact At.p8 | exact At.p9 | exact At.p10 | exact At.p11 | exact At.p12 | exact At.p13) (by first | exact upd_ints | exact upd_bools | exact upd_st1) ?_ rfl) (by exact (Take.cons _ _ _ _ _ (by first | exact Rem.p0 | exact Rem.p1 | exact Rem.p2 | exact Rem.p3 | exact Rem.p4 | exact Rem.p5 | exact Rem.p6 | exact Rem.p7 | exact Rem.p8 | exact Rem.p9 | exact Rem.p10 | exact Rem.p11 | exact Rem.p12 | exact Rem.p13) (Take.cons _ _ _ _ _ (by first | exact Rem.p0 | exact Rem.p1 | exact Rem.p2 | exact Rem.p3 | exact Rem.p4 | exact Rem.p5 | exact Rem.p6 | exact Rem.p7 | exact Rem.p8 | exact Rem.p9 | exact Rem.p10 | exact Rem.p11 | exact Rem.p12 | exact Rem.p13) (Take.nil _)))) ?_
            · first | exact Nat.zero_lt_one | assumption | omega | exact InI.of (by omega) (by omega) | (simp only [ints_len, bools_len, st1_len, arcs_len, lits_len, List.length_set, List.length_append, List.length_cons, List.length_nil, List.length_replicate]; omega)
            first | refine GoP.qN rfl (ps_indexAddr0N rfl rfl ?_ rfl) ?_ | refine GoP.qN rfl (ps_indexAddrRN rfl rfl ?_ rfl) ?_ | refine GoP.qN rfl (ps_indexAddr0 rfl rfl ?_ rfl) ?_ | refine GoP.qN rfl (ps_indexAddrN rfl rfl ?_ rfl) ?_ | refine GoP.qN rfl (ps_indexAddrRN rfl rfl ?_ rfl) ?_ | refine GoP.qN rfl (ps_indexAddr rfl rfl ?_ rfl) ?_ | refine GoP.qN rfl (ps_indexAddrR rfl rfl ?_ rfl) ?_
            · first | exact Nat.zero_lt_one | assumption | omega | exact InI.of (by omega) (by omega) | (simp only [ints_len, bools_len, st1_len, arcs_len, lits_len, List.length_set, List.length_append, List.length_cons, List.length_nil, List.length_replicate]; omega)
            refine GoP.one1 rfl trivial (ef_store rfl rfl rfl (by first | exact At.p0 | exact At.p1 | exact At.p2 | exact At.p3 | exact At.p4 | exact At.p5 | exact At.p6 | exact At.p7 | exact At.p8 | exact At.p9 | exact At.p10 | exact At.p11 | exact At.p12 | exact At.p13) (by first | exact upd_ints | exact upd_bools | exact upd_st1) ?_ rfl) (by exact (Take.cons _ _ _ _ _ (by first | exact Rem.p0 | exact Rem.p1 | exact Rem.p2 | exact Rem.p3 | exact Rem.p4 | exact Rem.p5 | exact Rem.p6 | exact Rem.p7 | exact Rem.p8 | exact Rem.p9 | exact Rem.p10 | exact Rem.p11 | exact Rem.p12 | exact Rem.p13) (Take.cons _ _ _ _ _ (by first | exact Rem.p0 | exact Rem.p1 | exact Rem.p2 | exact Rem.p3 | exact Rem.p4 | exact Rem.p5 | exact Rem.p6 | exact Rem.p7 | exact Rem.p8 | exact Rem.p9 | exact Rem.p10 | exact Rem.p11 | exact Rem.p12 | exact Rem.p13) (Take.nil _)))) ?_
            · first | exact Nat.zero_lt_one | assumption | omega | exact InI.of (by omega) (by omega) | (simp only [ints_len, bools_len, st1_len, arcs_len, lits_len, List.length_set, List.length_append, List.length_cons, List.length_nil, List.length_replicate]; omega)
            refine GoP.qN rfl (ps_assign rfl rfl) ?_
            refine GoP.done ?_
            refine GoK.blk ?_
            refine GoK.code ?_
            refine GoC.region ?_
            refine GoO.pure (ps_add rfl rfl rfl ?_) ?_
            · first | exact Nat.zero_lt_one | assumption | omega | exact InI.of (by omega) (by omega) | (simp only [ints_len, bools_len, st1_len, arcs_len, lits_len, List.length_set, List.length_append, List.length_cons, List.length_nil, List.length_replicate]; omega)
            refine GoO.pure (ps_move rfl rfl) ?_
            refine GoO.nil ?_
            refine GoK.againE (g.as.length - (k + 1)) ((k + 1, _, _, _)) ?_ ?_ (by repeat (first | exact EnvLe.nil | refine EnvLe.cons rfl ?_)) (by repeat (first | exact Tk.all _ | exact Tk.nil | refine Tk.cons (by first | exact Rem.p0 | exact Rem.p1 | exact Rem.p2 | exact Rem.p3 | exact Rem.p4 | exact Rem.p5 | exact Rem.p6 | exact Rem.p7 | exact Rem.p8 | exact Rem.p9 | exact Rem.p10 | exact Rem.p11 | exact Rem.p12 | exact Rem.p13) ?_))
            · omega
            · first | exact ⟨rfl, hR.no1 hlt ‹_›⟩ | exact ⟨rfl, hR.no2 hlt ‹_› ‹_›⟩ | exact ⟨rfl, hR.yes hg hlt ‹_› (.inl ‹_›)⟩ | exact ⟨rfl, hR.yes hg hlt ‹_› (.inr ‹_›)⟩
          · skip
            refine GoC.skip ?_
            refine GoK.blk ?_
            refine GoK.code ?_
            refine GoC.region ?_
            refine GoO.pure (ps_add rfl rfl rfl ?_) ?_
            · first | exact Nat.zero_lt_one | assumption | omega | exact InI.of (by omega) (by omega) | (simp only [ints_len, bools_len, st1_len, arcs_len, lits_len, List.length_set, List.length_append, List.length_cons, List.length_nil, List.length_replicate]; omega)
            refine GoO.pure (ps_move rfl rfl) ?_
            refine GoO.nil ?_
            refine GoK.againE (g.as.length - (k + 1)) ((k + 1, _, _, _)) ?_ ?_ (by repeat (first | exact EnvLe.nil | refine EnvLe.cons rfl ?_)) (by repeat (first | exact Tk.all _ | exact Tk.nil | refine Tk.cons (by first | exact Rem.p0 | exact Rem.p1 | exact Rem.p2 | exact Rem.p3 | exact Rem.p4 | exact Rem.p5 | exact Rem.p6 | exact Rem.p7 | exact Rem.p8 | exact Rem.p9 | exact Rem.p10 | exact Rem.p11 | exact Rem.p12 | exact Rem.p13) ?_))
            · omega
            · first | exact ⟨rfl, hR.no1 hlt ‹_›⟩ | exact ⟨rfl, hR.no2 hlt ‹_› ‹_›⟩ | exact ⟨rfl, hR.yes hg hlt ‹_› (.inl ‹_›)⟩ | exact ⟨rfl, hR.yes hg hlt ‹_› (.inr ‹_›)⟩
      · skip
        refine GoP.qF rfl rfl rfl rfl rfl ?_
        refine GoP.qF rfl rfl rfl rfl rfl ?_
        refine GoP.qF rfl rfl rfl rfl rfl ?_
        refine GoP.qF rfl rfl rfl rfl rfl ?_
        refine GoP.qF rfl rfl rfl rfl rfl ?_
        refine GoP.qF rfl rfl rfl rfl rfl ?_
        refine GoP.qF rfl rfl rfl rfl rfl ?_
        refine GoP.qU rfl rfl rfl rfl rfl ?_
        refine GoP.qU rfl rfl rfl rfl rfl ?_
        refine GoP.qU rfl rfl rfl rfl rfl ?_
        refine GoP.qU rfl rfl rfl rfl rfl ?_
        refine GoP.qU rfl rfl rfl rfl rfl ?_
        refine GoP.qU rfl rfl rfl rfl rfl ?_
        refine GoP.qU rfl rfl rfl rfl rfl ?_
        refine GoP.qU rfl rfl rfl rfl rfl ?_
        refine GoP.qU rfl rfl rfl rfl rfl ?_
        refine GoP.qU rfl rfl rfl rfl rfl ?_
        refine GoP.qU rfl rfl rfl rfl rfl ?_
        refine GoP.qU rfl rfl rfl rfl rfl ?_
        refine GoP.qU rfl rfl rfl rfl rfl ?_
        refine GoP.qU rfl rfl rfl rfl rfl ?_
        refine GoP.qF rfl rfl rfl rfl rfl ?_
        refine GoP.qN rfl (ps_pickF rfl rfl rfl) ?_
        refine GoP.done ?_
        refine GoK.code ?_
        refine GoC.condF rfl ?_
        refine GoC.skip ?_
        refine GoK.blk ?_
        refine GoK.code ?_
        refine GoC.region ?_
        refine GoO.pure (ps_add rfl rfl rfl ?_) ?_
        · first | exact Nat.zero_lt_one | assumption | omega | exact InI.of (by omega) (by omega) | (simp only [ints_len, bools_len, st1_len, arcs_len, lits_len, List.length_set, List.length_append, List.length_cons, List.length_nil, List.length_replicate]; omega)
        refine GoO.pure (ps_move rfl rfl) ?_
        refine GoO.nil ?_
        refine GoK.againE (g.as.length - (k + 1)) ((k + 1, _, _, _)) ?_ ?_ (by repeat (first | exact EnvLe.nil | refine EnvLe.cons rfl ?_)) (by repeat (first | exact Tk.all _ | exact Tk.nil | refine Tk.cons (by first | exact Rem.p0 | exact Rem.p1 | exact Rem.p2 | exact Rem.p3 | exact Rem.p4 | exact Rem.p5 | exact Rem.p6 | exact Rem.p7 | exact Rem.p8 | exact Rem.p9 | exact Rem.p10 | exact Rem.p11 | exact Rem.p12 | exact Rem.p13) ?_))
        · omega
        · first | exact ⟨rfl, hR.no1 hlt ‹_›⟩ | exact ⟨rfl, hR.no2 hlt ‹_› ‹_›⟩ | exact ⟨rfl, hR.yes hg hlt ‹_› (.inl ‹_›)⟩ | exact ⟨rfl, hR.yes hg hlt ‹_› (.inr ‹_›)⟩
    · skip
      refine GoC.exit rfl ?_
      refine GoK.code ?_
      refine GoC.seq ?_
      refine GoC.region ?_
      refine GoO.pure (ps_move rfl rfl) ?_
      refine GoO.nil ?_
      refine GoK.code ?_
      first | refine GoC.condD rfl (fun h102 => ?_) (fun h102 => ?_) | refine GoC.cond rfl (fun h102 => ?_) (fun h102 => ?_)
      · skip
        refine GoC.seq ?_
        refine GoC.region ?_
        refine GoO.pure (ps_assign rfl rfl) ?_
        refine GoO.nil ?_
        refine GoK.code ?_
        refine GoC.ret1 (H' := [.one βf 3 1 (ints _), .one βk 4 1 (bools _)]) Try.results38 (ResD.tmp rfl) (by exact (Take.cons _ _ _ _ _ (by first | exact Rem.p0 | exact Rem.p1 | exact Rem.p2 | exact Rem.p3 | exact Rem.p4 | exact Rem.p5 | exact Rem.p6 | exact Rem.p7 | exact Rem.p8 | exact Rem.p9 | exact Rem.p10 | exact Rem.p11 | exact Rem.p12 | exact Rem.p13) (Take.cons _ _ _ _ _ (by first | exact Rem.p0 | exact Rem.p1 | exact Rem.p2 | exact Rem.p3 | exact Rem.p4 | exact Rem.p5 | exact Rem.p6 | exact Rem.p7 | exact Rem.p8 | exact Rem.p9 | exact Rem.p10 | exact Rem.p11 | exact Rem.p12 | exact Rem.p13) (Take.nil _)))) ?_
        · have hf := hR.fold; rw [List.drop_eq_nil_of_le (by omega)] at hf; simp only [List.foldl_nil] at hf; rw [← mL, eR, relaxN, ← hf, if_pos (by simpa using ‹_ = true›)]; exact ⟨rfl, rfl⟩
      · skip
        refine GoC.skip ?_
        refine GoK.blk ?_
        refine GoK.code ?_
        refine GoC.region ?_
        refine GoO.pure (ps_add rfl rfl rfl ?_) ?_
        · first | exact Nat.zero_lt_one | assumption | omega | exact InI.of (by omega) (by omega) | (simp only [ints_len, bools_len, st1_len, arcs_len, lits_len, List.length_set, List.length_append, List.length_cons, List.length_nil, List.length_replicate]; omega)
        refine GoO.pure (ps_move rfl rfl) ?_
        refine GoO.nil ?_
        refine GoK.againE (N + 1 - (r + 1)) ((r + 1, _, _)) ?_ ?_ (by repeat (first | exact EnvLe.nil | refine EnvLe.cons rfl ?_)) (by repeat (first | exact Tk.all _ | exact Tk.nil | refine Tk.cons (by first | exact Rem.p0 | exact Rem.p1 | exact Rem.p2 | exact Rem.p3 | exact Rem.p4 | exact Rem.p5 | exact Rem.p6 | exact Rem.p7 | exact Rem.p8 | exact Rem.p9 | exact Rem.p10 | exact Rem.p11 | exact Rem.p12 | exact Rem.p13) ?_))
        · omega
        · exact ⟨rfl, by omega, hR.l1, hR.l2, hR.bd.mono (by have := hR.le; omega), by have hf := hR.fold; rw [List.drop_eq_nil_of_le (by omega)] at hf; simp only [List.foldl_nil] at hf; rw [← mL, eR, relaxN, ← hf, if_neg (by simpa using ‹_ = false›)]⟩
  · skip
    refine GoC.exit rfl ?_
    refine GoK.code ?_
    refine GoC.seq ?_
    refine GoC.region ?_
    refine GoO.pure (ps_assign rfl rfl) ?_
    refine GoO.nil ?_
    refine GoK.code ?_
    refine GoC.ret1 (H' := [.one βf 3 1 (ints _), .one βk 4 1 (bools _)]) Try.results38 (ResD.tmp rfl) (by exact (Take.cons _ _ _ _ _ (by first | exact Rem.p0 | exact Rem.p1 | exact Rem.p2 | exact Rem.p3 | exact Rem.p4 | exact Rem.p5 | exact Rem.p6 | exact Rem.p7 | exact Rem.p8 | exact Rem.p9 | exact Rem.p10 | exact Rem.p11 | exact Rem.p12 | exact Rem.p13) (Take.cons _ _ _ _ _ (by first | exact Rem.p0 | exact Rem.p1 | exact Rem.p2 | exact Rem.p3 | exact Rem.p4 | exact Rem.p5 | exact Rem.p6 | exact Rem.p7 | exact Rem.p8 | exact Rem.p9 | exact Rem.p10 | exact Rem.p11 | exact Rem.p12 | exact Rem.p13) (Take.nil _)))) ?_
    · have e0 : N + 1 - r = 0 := (by omega); rw [← mL, e0]; exact ⟨rfl, rfl⟩

end Go.Proofs.Ytmgldjkgneiejaa
