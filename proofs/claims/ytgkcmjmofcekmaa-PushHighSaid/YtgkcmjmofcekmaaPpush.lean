/- Package push: what is right stays right. -/
import Derived.Test.YtgkcmjmofcekmaaPmore
import Derived.Test.YtgkcmjmofcekmaaGpush
namespace Go.Proofs.Ytgkcmjmofcekmaa
open Go Go.Proofs.Ytgkcmjmofcekmaa.Sx
set_option linter.unusedVariables false
set_option linter.unusedSimpArgs false
def hgt (h : List Int) (x : Int) : Int := h.getD x.toNat 0
/-- what comes to a node and does not go on -/
def exs (n : Net) (f : List Int) (x : Int) : Int := -netAt n.as f x
structure PV (n : Net) (q : Push) : Prop where
  ok : OkNet n
  eq : q.net = n
  len : q.flow.length = n.as.length
  hl : q.height.length = n.n.toNat
  r : ∀ k, k < n.as.length → 0 ≤ q.flow.getD k 0 ∧ q.flow.getD k 0 ≤ (n.as.getD k El.d).c
  exc : ∀ x : Nat, x < n.n.toNat → (x : Int) ≠ n.s → 0 ≤ exs n q.flow x
  h0 : ∀ x : Nat, x < n.n.toNat → 0 ≤ q.height.getD x 0 ∧ q.height.getD x 0 ≤ 2 * n.n
  hs : hgt q.height n.s = n.n
  ht : hgt q.height n.t = 0
  fw : ∀ k, k < n.as.length → q.flow.getD k 0 < (n.as.getD k El.d).c → hgt q.height (n.as.getD k El.d).f ≤ hgt q.height (n.as.getD k El.d).t + 1
  bw : ∀ k, k < n.as.length → 0 < q.flow.getD k 0 → hgt q.height (n.as.getD k El.d).t ≤ hgt q.height (n.as.getD k El.d).f + 1
theorem term_lim {n : Net} (hn : OkNet n) {f : List Int} (hr : ∀ k, k < n.as.length → 0 ≤ f.getD k 0 ∧ f.getD k 0 ≤ (n.as.getD k El.d).c) (x : Int) {k : Nat} (hk : k < n.as.length) : -10000 ≤ term n.as f x k ∧ term n.as f x k ≤ 10000 := by
  have := hr k hk
  have := (hn.arc hk).c1
  unfold term
  split <;> split <;> omega
theorem exs_lim {n : Net} (hn : OkNet n) {f : List Int} (hr : ∀ k, k < n.as.length → 0 ≤ f.getD k 0 ∧ f.getD k 0 ≤ (n.as.getD k El.d).c) (x : Int) : -600000 ≤ exs n f x ∧ exs n f x ≤ 600000 := by
  have hl := hn.g.len
  dsimp only at hl
  have := tot_abs (f := term n.as f x) (M := 10000) (n := n.as.length) fun i hi => term_lim hn hr x hi
  unfold exs netAt
  omega
theorem wait_ok {n : Net} (hn : OkNet n) {f h : List Int} (hlen : f.length = n.as.length) (hr : ∀ k, k < n.as.length → 0 ≤ f.getD k 0 ∧ f.getD k 0 ≤ (n.as.getD k El.d).c) : ∃ w, push_wait_F ⟨n, f, h⟩ = some w ∧ w.length = n.n.toNat ∧ ∀ x : Nat, x < n.n.toNat → w.getD x 0 = exs n f x := by
  have n0 := hn.g.n0; have n1 := hn.g.n1; have hl := hn.g.len
  dsimp only at n0 n1 hl
  unfold push_wait_F
  dsimp only
  rw [ck_some (by omega)]
  obtain ⟨w, e, q1, q2⟩ := forN_inv (f := push_wait_B1 ⟨n, f, h⟩) (fun j w => w.length = n.n.toNat ∧ ∀ x : Nat, x < n.n.toNat → w.getD x 0 = -tot (term n.as f x) j) (n := n.as.length) (k := 0) (s := List.replicate n.n.toNat (0 : Int))
    ⟨by simp, fun x hx => by simp [tot, hx]⟩ fun j w _ hj ⟨i1, i2⟩ => by
      have hj' : j < n.as.length := by omega
      have hG := hn.arc hj'
      have f0 := hG.f0; have f1 := hG.f1; have t0 := hG.t0; have t1 := hG.t1; have c1 := hG.c1
      have hrj := hr j hj'
      have hb : ∀ x : Nat, -600000 ≤ tot (term n.as f x) j ∧ tot (term n.as f x) j ≤ 600000 := fun x => by
        have := tot_abs (f := term n.as f x) (M := 10000) (n := j) fun i hi => term_lim hn hr x (show i < n.as.length by omega)
        omega
      have ef := i2 (n.as.getD j El.d).f.toNat (by omega)
      have et := i2 (n.as.getD j El.d).t.toNat (by omega)
      have bf := hb (n.as.getD j El.d).f.toNat
      have bt := hb (n.as.getD j El.d).t.toNat
      have g1 : ∀ x : Nat, x < n.n.toNat → (w.set (n.as.getD j El.d).f.toNat (w.getD (n.as.getD j El.d).f.toNat 0 - f.getD j 0)).getD x 0 = -tot (term n.as f x) j - if (n.as.getD j El.d).f = (x : Int) then f.getD j 0 else 0 := fun x hx => by
        rw [getD_set']
        by_cases q : x = (n.as.getD j El.d).f.toNat
        · rw [if_pos ⟨q, by omega⟩, if_pos (by omega), ef, q]
        · rw [if_neg (fun z => q z.1), if_neg (by omega), i2 x hx]; omega
      have eg := g1 (n.as.getD j El.d).t.toNat (by omega)
      unfold push_wait_B1
      dsimp only
      rw [ck_some (by omega), ck_some (by omega), ck_some (inI_small (by omega) (by omega)), ck_some (by omega), ck_some (inI_small (by split at eg <;> omega) (by split at eg <;> omega))]
      refine ⟨_, rfl, by simp [i1], fun x hx => ?_⟩
      rw [getD_set', tot, term]
      by_cases q : x = (n.as.getD j El.d).t.toNat
      · rw [if_pos ⟨q, by rw [List.length_set]; omega⟩, eg, if_pos (show (n.as.getD j El.d).t = (x : Int) by omega), q, show (((n.as.getD j El.d).t.toNat : Nat) : Int) = (n.as.getD j El.d).t by omega]
        omega
      · rw [if_neg (fun z => q z.1), g1 x hx, if_neg (show ¬ (n.as.getD j El.d).t = (x : Int) by omega)]
        omega
  rw [e, bind_some']
  rw [Nat.zero_add] at q2
  exact ⟨w, rfl, q1, fun x hx => by rw [q2 x hx]; rfl⟩
theorem PV.check {n : Net} {q : Push} (h : PV n q) : push_Check_F q = some 0 := by
  obtain ⟨m, f, hh⟩ := q
  obtain rfl : m = n := h.eq
  have hn := h.ok
  have n0 := hn.g.n0; have n1 := hn.g.n1; have s0 := hn.s0; have s1 := hn.s1; have t0 := hn.t0; have t1 := hn.t1
  dsimp only at n0 n1
  have hlen := h.len; have hhl := h.hl; have hr := h.r
  dsimp only at hlen hhl hr
  have hc : graph_CheckNet_F m = some 0 := by
    rcases checkNet_cases m with ⟨_, e⟩ | ⟨z, _⟩
    · exact e
    · exact absurd hn z
  obtain ⟨w, ew, w1, w2⟩ := wait_ok (h := hh) hn hlen hr
  have h0 := h.h0; have hs := h.hs; have ht := h.ht
  dsimp only [hgt] at h0 hs ht
  have l1 : forC (push_Check_B1 ⟨m, f, hh⟩) m.as.length 0 () = some (.go ()) := forC_all fun j _ hj => by
    have hrj := hr j (by omega)
    unfold push_Check_B1
    dsimp only
    rw [ck_some (by omega), if_neg (by omega), if_neg (by omega)]
  have l2 : forC (push_Check_B2 ⟨m, f, hh⟩ w) w.length 0 () = some (.go ()) := forC_all fun j _ hj => by
    have e := w2 j (by omega)
    unfold push_Check_B2
    dsimp only
    by_cases q : (j : Int) = m.s
    · by_cases z : w.getD j 0 < 0
      · rw [if_pos z, if_neg (fun y => y q)]
      · rw [if_neg z]
    · have := h.exc j (by omega) q
      dsimp only at this
      rw [if_neg (by omega)]
  have l3 : forC (push_Check_B3 ⟨m, f, hh⟩) hh.length 0 () = some (.go ()) := forC_all fun j _ hj => by
    have := h0 j (by omega)
    unfold push_Check_B3
    dsimp only
    rw [if_neg (by omega), ck_some (inI_small (by omega) (by omega)), if_neg (by omega)]
  have l4 : forC (push_Check_B4 ⟨m, f, hh⟩) m.as.length 0 () = some (.go ()) := forC_all fun j _ hj => by
    have hj' : j < m.as.length := by omega
    have hG := hn.arc hj'
    have f0 := hG.f0; have f1 := hG.f1; have u0 := hG.t0; have u1 := hG.t1
    have hf := h0 (m.as.getD j El.d).f.toNat (by omega)
    have ht := h0 (m.as.getD j El.d).t.toNat (by omega)
    have hfw := h.fw j hj'
    have hbw := h.bw j hj'
    dsimp only [hgt] at hfw hbw
    unfold push_Check_B4
    dsimp only
    rw [ck_some (by omega)]
    have last : (if 0 < f.getD j 0 then ck (InI (hh.getD (m.as.getD j El.d).f.toNat 0 + 1)) (if hh.getD (m.as.getD j El.d).f.toNat 0 + 1 < hh.getD (m.as.getD j El.d).t.toNat 0 then some (Ct.ret (9 : Int)) else some (Ct.go ())) else some (Ct.go ())) = some (Ct.go ()) := by
      by_cases q : 0 < f.getD j 0
      · have := hbw q
        rw [if_pos q, ck_some (inI_small (by omega) (by omega)), if_neg (by omega)]
      · rw [if_neg q]
    by_cases q : f.getD j 0 < (m.as.getD j El.d).c
    · have := hfw q
      rw [if_pos q, ck_some (by omega), ck_some (by omega), ck_some (inI_small (by omega) (by omega)), if_neg (by omega)]
      exact last
    · rw [if_neg q, ck_some (by omega), ck_some (by omega)]
      exact last
  unfold push_Check_F
  dsimp only
  rw [hc, bind_some', if_neg (by decide), if_neg (by omega), if_neg (by omega), l1, bind_some']
  dsimp only
  rw [ew, bind_some', l2, bind_some']
  dsimp only
  rw [l3, bind_some']
  dsimp only
  rw [ck_some (by omega), if_neg (fun z => z hs), ck_some (by omega), if_neg (fun z => z ht), l4, bind_some']
theorem new_ok {n : Net} (hn : OkNet n) : ∃ q, push_New_F n = some (q, 0) ∧ PV n q := by
  have n0 := hn.g.n0; have n1 := hn.g.n1; have s0 := hn.s0; have s1 := hn.s1; have t0 := hn.t0; have t1 := hn.t1; have hl := hn.g.len; have hne := hn.ne
  dsimp only at n0 n1 hl
  have hc : graph_CheckNet_F n = some 0 := by
    rcases checkNet_cases n with ⟨_, e⟩ | ⟨z, _⟩
    · exact e
    · exact absurd hn z
  unfold push_New_F
  rw [hc, bind_some', if_neg (by decide), clone_eq (by omega), bind_some', ck_some (by omega), ck_some (by omega), ck_some (by omega), Int.toNat_natCast]
  obtain ⟨f, e, f1, f2⟩ := forN_inv (f := push_New_B1 n n.as) (fun j f => f.length = n.as.length ∧ ∀ k, k < n.as.length → f.getD k 0 = if k < j ∧ (n.as.getD k El.d).f = n.s ∧ (n.as.getD k El.d).t ≠ n.s then (n.as.getD k El.d).c else 0) (n := n.as.length) (k := 0) (s := List.replicate n.as.length (0 : Int)) ⟨by simp, fun k hk => by simp [hk]⟩ fun j f _ hj ⟨i1, i2⟩ => by
    have hj' : j < n.as.length := by omega
    unfold push_New_B1
    have keep : ¬ ((n.as.getD j El.d).f = n.s ∧ (n.as.getD j El.d).t ≠ n.s) → ∀ k, k < n.as.length → f.getD k 0 = if k < j + 1 ∧ (n.as.getD k El.d).f = n.s ∧ (n.as.getD k El.d).t ≠ n.s then (n.as.getD k El.d).c else 0 := fun hno k hk => by
      rw [i2 k hk]
      by_cases e : k = j
      · subst e; rw [if_neg (by omega), if_neg (fun z => hno z.2)]
      · by_cases q : k < j ∧ (n.as.getD k El.d).f = n.s ∧ (n.as.getD k El.d).t ≠ n.s
        · rw [if_pos q, if_pos ⟨by omega, q.2⟩]
        · rw [if_neg q, if_neg (fun z => q ⟨by omega, z.2⟩)]
    by_cases q1 : (n.as.getD j El.d).f = n.s
    · rw [if_pos q1]
      by_cases q2 : (n.as.getD j El.d).t ≠ n.s
      · rw [if_pos q2, ck_some (by omega)]
        refine ⟨_, rfl, by simp [i1], fun k hk => ?_⟩
        rw [getD_set']
        by_cases e : k = j
        · subst e; rw [if_pos ⟨rfl, by omega⟩, if_pos ⟨by omega, q1, q2⟩]
        · rw [if_neg (fun z => e z.1), i2 k hk]
          by_cases q : k < j ∧ (n.as.getD k El.d).f = n.s ∧ (n.as.getD k El.d).t ≠ n.s
          · rw [if_pos q, if_pos ⟨by omega, q.2⟩]
          · rw [if_neg q, if_neg (fun z => q ⟨by omega, z.2⟩)]
      · rw [if_neg q2]
        exact ⟨_, rfl, i1, keep fun z => q2 z.2⟩
    · rw [if_neg q1]
      exact ⟨_, rfl, i1, keep fun z => q1 z.1⟩
  rw [e, bind_some']
  rw [Nat.zero_add] at f2
  have f2' : ∀ k, k < n.as.length → f.getD k 0 = if (n.as.getD k El.d).f = n.s ∧ (n.as.getD k El.d).t ≠ n.s then (n.as.getD k El.d).c else 0 := fun k hk => by
    rw [f2 k hk]
    by_cases q : (n.as.getD k El.d).f = n.s ∧ (n.as.getD k El.d).t ≠ n.s
    · rw [if_pos q, if_pos ⟨hk, q⟩]
    · rw [if_neg q, if_neg (fun z => q z.2)]
  have hh : ∀ x : Nat, ((List.replicate n.n.toNat (0 : Int)).set n.s.toNat n.n).getD x 0 = if x = n.s.toNat then n.n else 0 := fun x => by
    rw [getD_set', List.length_replicate]
    by_cases q : x = n.s.toNat
    · rw [if_pos ⟨q, by omega⟩, if_pos q]
    · rw [if_neg (fun z => q z.1), if_neg q, getD_replicate']
      split <;> rfl
  refine ⟨_, rfl, hn, rfl, f1, by simp, fun k hk => ?_, fun x hx hxs => ?_, fun x hx => ?_, ?_, ?_, fun k hk hlt => ?_, fun k hk hpos => ?_⟩
  · have := (hn.arc hk).c0
    dsimp only
    rw [f2' k hk]; split <;> omega
  · unfold exs netAt
    dsimp only
    have : tot (term n.as f (x : Int)) n.as.length ≤ tot (fun _ => 0) n.as.length := tot_le fun k hk => by
      have := (hn.arc hk).c0
      unfold term
      rw [f2' k hk]
      by_cases q : (n.as.getD k El.d).f = n.s ∧ (n.as.getD k El.d).t ≠ n.s
      · rw [if_neg (show ¬ (n.as.getD k El.d).f = (x : Int) by omega), if_pos q]
        split <;> omega
      · rw [if_neg q]; split <;> split <;> omega
    rw [tot_zero (f := fun _ => 0) fun _ _ => rfl] at this
    omega
  · dsimp only; rw [hh]; split <;> omega
  · dsimp only [hgt]; rw [hh, if_pos rfl]
  · dsimp only [hgt]; rw [hh, if_neg (by omega)]
  · have hG := hn.arc hk
    have g0 := hG.f0; have g1 := hG.t0
    dsimp only [hgt] at hlt ⊢
    rw [f2' k hk] at hlt
    rw [hh, hh]
    by_cases q : (n.as.getD k El.d).f = n.s
    · by_cases q2 : (n.as.getD k El.d).t = n.s
      · rw [q, q2]; omega
      · rw [if_pos ⟨q, q2⟩] at hlt; omega
    · rw [if_neg (by omega)]; split <;> omega
  · have hG := hn.arc hk
    have g0 := hG.f0; have g1 := hG.t0
    dsimp only [hgt] at hpos ⊢
    rw [f2' k hk] at hpos
    rw [hh, hh]
    by_cases q : (n.as.getD k El.d).f = n.s ∧ (n.as.getD k El.d).t ≠ n.s
    · rw [if_neg (show ¬ (n.as.getD k El.d).t.toNat = n.s.toNat by omega)]; split <;> omega
    · rw [if_neg q] at hpos; omega
theorem new_bad {n : Net} (hn : ¬ OkNet n) : ∃ e, e ≠ 0 ∧ push_New_F n = some (⟨⟨0, 0, 0, []⟩, [], []⟩, e) := by
  rcases checkNet_cases n with ⟨h, _⟩ | ⟨_, e, he, h⟩
  · exact absurd h hn
  · unfold push_New_F
    exact ⟨e, he, by rw [h, bind_some', if_pos he]⟩
theorem busy_ok {n : Net} {q : Push} (h : PV n q) {x : Int} (h0 : 0 ≤ x) (h1 : x < n.n) : push_busy_F q x = some (decide (x ≠ n.s ∧ x ≠ n.t ∧ 0 < exs n q.flow x)) := by
  obtain ⟨m, f, hh⟩ := q
  obtain rfl : m = n := h.eq
  obtain ⟨w, ew, w1, w2⟩ := wait_ok (h := hh) h.ok h.len h.r
  unfold push_busy_F
  dsimp only
  by_cases q1 : x = m.s
  · rw [if_neg (fun z => z q1), decide_eq_false fun z => z.1 q1]
  · rw [if_pos q1]
    by_cases q2 : x = m.t
    · rw [if_neg (fun z => z q2), decide_eq_false fun z => z.2.1 q2]
    · rw [if_pos q2, ew, bind_some', ck_some (by omega), w2 _ (by omega), show ((x.toNat : Nat) : Int) = x by omega]
      congr 1
      rw [decide_eq_decide]
      exact ⟨fun z => ⟨q1, q2, z⟩, fun z => z.2.2⟩
theorem copied_ok {n : Net} {q : Push} (h : PV n q) : push_copied_F q = some q := by
  obtain ⟨m, f, hh⟩ := q
  obtain rfl : m = n := h.eq
  have hl := h.ok.g.len; have n1 := h.ok.g.n1; have h1 := h.len; have h2 := h.hl
  dsimp only at hl n1 h1 h2
  have c1 : slices_Clone_int_F f = some f := by unfold slices_Clone_int_F; rw [ck_some (by omega)]; rfl
  have c2 : slices_Clone_int_F hh = some hh := by unfold slices_Clone_int_F; rw [ck_some (by omega)]; rfl
  unfold push_copied_F
  dsimp only
  rw [clone_eq (by omega), bind_some', c1, bind_some', c2, bind_some']
/-- a flow that has turned at one arc -/
theorem exs_set {n : Net} {f : List Int} {k : Nat} (hk : k < n.as.length) (hl : f.length = n.as.length) (v z : Int) : exs n (f.set k v) z = exs n f z - (v - f.getD k 0) * ((if (n.as.getD k El.d).f = z then 1 else 0) - (if (n.as.getD k El.d).t = z then 1 else 0)) := by
  unfold exs
  rw [netAt_set hk hl]; omega
theorem send_ok {n : Net} {q : Push} (h : PV n q) (k : Int) (back : Bool) : (∃ q' : Push, push_Send_F q k back = some (q', 0) ∧ PV n q' ∧ q'.height = q.height) ∨ ∃ e, e ≠ 0 ∧ push_Send_F q k back = some (⟨⟨0, 0, 0, []⟩, [], []⟩, e) := by
  have hchk := h.check
  have hcop := copied_ok h
  have hbusy := fun x h0 h1 => busy_ok h (x := x) h0 h1
  obtain ⟨m, f, hh⟩ := q
  obtain rfl : m = n := h.eq
  have hn := h.ok
  have n0 := hn.g.n0; have n1 := hn.g.n1
  dsimp only at n0 n1
  have hlen := h.len; have hhl := h.hl; have hr := h.r; have hh0 := h.h0
  dsimp only at hlen hhl hr hh0
  obtain ⟨w, ew, w1, w2⟩ := wait_ok (h := hh) hn hlen hr
  unfold push_Send_F
  dsimp only
  rw [hchk, bind_some', if_neg (by decide)]
  by_cases k0 : k < 0
  · rw [if_pos k0]; exact .inr ⟨5, by decide, rfl⟩
  rw [if_neg k0]
  by_cases k1 : ((m.as.length : Nat) : Int) ≤ k
  · rw [if_pos k1]; exact .inr ⟨5, by decide, rfl⟩
  have hk : k.toNat < m.as.length := by omega
  have hG := hn.arc hk
  have f0 := hG.f0; have f1 := hG.f1; have t0 := hG.t0; have t1 := hG.t1; have c0 := hG.c0; have c1 := hG.c1
  have hrk := hr k.toNat hk
  rw [if_neg k1, ck_some (by omega), ck_some (by omega), ck_some (inI_small (by omega) (by omega))]
  -- the common rest, from x to y, with some room
  have rest : ∀ x y room : Int, 0 ≤ x → x < m.n → 0 ≤ y → y < m.n → 0 ≤ room → room ≤ 10000 → (∀ z, ((if back = true then -1 else 1) : Int) * ((if (m.as.getD k.toNat El.d).f = z then 1 else 0) - (if (m.as.getD k.toNat El.d).t = z then 1 else 0)) = (if x = z then 1 else 0) - (if y = z then 1 else 0)) →
      (∀ d : Int, 0 ≤ d → d ≤ room → 0 ≤ f.getD k.toNat 0 + (if back = true then -1 else 1) * d ∧ f.getD k.toNat 0 + (if back = true then -1 else 1) * d ≤ (m.as.getD k.toNat El.d).c) →
      (hgt hh x = hgt hh y + 1 → hgt hh (m.as.getD k.toNat El.d).f ≤ hgt hh (m.as.getD k.toNat El.d).t + 1 ∧ hgt hh (m.as.getD k.toNat El.d).t ≤ hgt hh (m.as.getD k.toNat El.d).f + 1) →
      (∃ q' : Push, (if room = 0 then some ((⟨⟨0, 0, 0, []⟩, [], []⟩ : Push), (9 : Int)) else (push_busy_F ⟨⟨m.n, m.s, m.t, m.as⟩, f, hh⟩ x).bind fun r20 => if (!r20) = true then some ((⟨⟨0, 0, 0, []⟩, [], []⟩ : Push), 9) else ck (0 ≤ x ∧ x < ((hh.length : Nat) : Int)) <| ck (0 ≤ y ∧ y < ((hh.length : Nat) : Int)) <| ck (InI (hh.getD y.toNat 0 + 1)) <| if hh.getD x.toNat 0 ≠ hh.getD y.toNat 0 + 1 then some ((⟨⟨0, 0, 0, []⟩, [], []⟩ : Push), 9) else (push_wait_F ⟨⟨m.n, m.s, m.t, m.as⟩, f, hh⟩).bind fun r27 => ck (0 ≤ x ∧ x < ((r27.length : Nat) : Int)) <| (push_copied_F ⟨⟨m.n, m.s, m.t, m.as⟩, f, hh⟩).bind fun r31 =>
        ((if back = true then ck (InI (-(min room (r27.getD x.toNat 0)))) <| some (-(min room (r27.getD x.toNat 0))) else some (min room (r27.getD x.toNat 0))) : Option Int).bind fun x36 => ck (0 ≤ k ∧ k < ((r31.flow.length : Nat) : Int)) <| ck (InI (r31.flow.getD k.toNat 0 + x36)) <| some ((⟨⟨r31.net.n, r31.net.s, r31.net.t, r31.net.as⟩, r31.flow.set k.toNat (r31.flow.getD k.toNat 0 + x36), r31.height⟩ : Push), 0)) = some (q', 0) ∧ PV m q' ∧ q'.height = hh) ∨
      ∃ e : Int, e ≠ 0 ∧ (if room = 0 then some ((⟨⟨0, 0, 0, []⟩, [], []⟩ : Push), (9 : Int)) else (push_busy_F ⟨⟨m.n, m.s, m.t, m.as⟩, f, hh⟩ x).bind fun r20 => if (!r20) = true then some ((⟨⟨0, 0, 0, []⟩, [], []⟩ : Push), 9) else ck (0 ≤ x ∧ x < ((hh.length : Nat) : Int)) <| ck (0 ≤ y ∧ y < ((hh.length : Nat) : Int)) <| ck (InI (hh.getD y.toNat 0 + 1)) <| if hh.getD x.toNat 0 ≠ hh.getD y.toNat 0 + 1 then some ((⟨⟨0, 0, 0, []⟩, [], []⟩ : Push), 9) else (push_wait_F ⟨⟨m.n, m.s, m.t, m.as⟩, f, hh⟩).bind fun r27 => ck (0 ≤ x ∧ x < ((r27.length : Nat) : Int)) <| (push_copied_F ⟨⟨m.n, m.s, m.t, m.as⟩, f, hh⟩).bind fun r31 =>
        ((if back = true then ck (InI (-(min room (r27.getD x.toNat 0)))) <| some (-(min room (r27.getD x.toNat 0))) else some (min room (r27.getD x.toNat 0))) : Option Int).bind fun x36 => ck (0 ≤ k ∧ k < ((r31.flow.length : Nat) : Int)) <| ck (InI (r31.flow.getD k.toNat 0 + x36)) <| some ((⟨⟨r31.net.n, r31.net.s, r31.net.t, r31.net.as⟩, r31.flow.set k.toNat (r31.flow.getD k.toNat 0 + x36), r31.height⟩ : Push), 0)) = some (⟨⟨0, 0, 0, []⟩, [], []⟩, e) := fun x y room x0 x1 y0 y1 rm0 rm1 hd hin hhh => by
    by_cases q1 : room = 0
    · rw [if_pos q1]; exact .inr ⟨9, by decide, rfl⟩
    have hb : push_busy_F ⟨⟨m.n, m.s, m.t, m.as⟩, f, hh⟩ x = _ := hbusy x x0 x1
    rw [if_neg q1, hb, bind_some']
    by_cases q2 : x ≠ m.s ∧ x ≠ m.t ∧ 0 < exs m f x
    · have hx := hh0 x.toNat (by omega)
      have hy := hh0 y.toNat (by omega)
      rw [decide_eq_true q2, if_neg (by decide), ck_some (by omega), ck_some (by omega), ck_some (inI_small (by omega) (by omega))]
      by_cases q3 : hh.getD x.toNat 0 = hh.getD y.toNat 0 + 1
      · have ew' : push_wait_F ⟨⟨m.n, m.s, m.t, m.as⟩, f, hh⟩ = some w := ew
        have hcop' : push_copied_F ⟨⟨m.n, m.s, m.t, m.as⟩, f, hh⟩ = some ⟨m, f, hh⟩ := hcop
        have hwx := w2 x.toNat (by omega)
        rw [show ((x.toNat : Nat) : Int) = x by omega] at hwx
        have hexl := exs_lim hn hr x
        have hh3 := hhh q3
        rw [if_neg (fun z => z q3), ew', bind_some', ck_some (by omega), hcop', bind_some', hwx]
        generalize hd' : min room (exs m f x) = d
        have d0 : 0 ≤ d := by omega
        have d1 : d ≤ room := by omega
        have d2 : d ≤ exs m f x := by omega
        have hb2 : (((if back = true then ck (InI (-d)) <| some (-d) else some d) : Option Int)) = some ((if back = true then -1 else 1) * d) := by
          cases back with
          | true => rw [if_pos rfl, if_pos rfl, ck_some (inI_small (by omega) (by omega))]; congr 1; omega
          | false => rw [if_neg (by decide), if_neg (by decide)]; congr 1; omega
        have hi := hin d d0 d1
        rw [hb2, bind_some']
        dsimp only
        rw [ck_some (by omega), ck_some (inI_small (by omega) (by omega))]
        left
        refine ⟨_, rfl, ⟨hn, rfl, by simp [hlen], hhl, fun i hi' => ?_, fun z hz hzs => ?_, hh0, h.hs, h.ht, fun i hi' hlt => ?_, fun i hi' hp => ?_⟩, rfl⟩
        · dsimp only
          rw [getD_set']
          by_cases e : i = k.toNat
          · rw [if_pos ⟨e, by omega⟩, e]; exact hi
          · rw [if_neg (fun z => e z.1)]; exact hr i hi'
        · dsimp only
          rw [exs_set hk hlen]
          have he := h.exc z hz hzs
          dsimp only at he
          have hdz := hd (z : Int)
          have e1 : (f.getD k.toNat 0 + (if back = true then -1 else 1) * d - f.getD k.toNat 0) * ((if (m.as.getD k.toNat El.d).f = (z : Int) then 1 else 0) - (if (m.as.getD k.toNat El.d).t = (z : Int) then 1 else 0)) = d * ((if x = (z : Int) then 1 else 0) - (if y = (z : Int) then 1 else 0)) := by
            rw [← hdz, show f.getD k.toNat 0 + (if back = true then -1 else 1) * d - f.getD k.toNat 0 = d * (if back = true then -1 else 1) by rw [Int.mul_comm d]; omega, Int.mul_assoc]
          rw [e1]
          by_cases z1 : x = (z : Int)
          · rw [if_pos z1]
            rw [← z1] at he ⊢
            split <;> omega
          · rw [if_neg z1]
            split <;> omega
        · dsimp only at hlt ⊢
          rw [getD_set'] at hlt
          by_cases e : i = k.toNat
          · rw [e]; exact hh3.1
          · rw [if_neg (fun z => e z.1)] at hlt; exact h.fw i hi' hlt
        · dsimp only at hp ⊢
          rw [getD_set'] at hp
          by_cases e : i = k.toNat
          · rw [e]; exact hh3.2
          · rw [if_neg (fun z => e z.1)] at hp; exact h.bw i hi' hp
      · rw [if_pos q3]; exact .inr ⟨9, by decide, rfl⟩
    · rw [decide_eq_false q2, if_pos (by decide)]; exact .inr ⟨9, by decide, rfl⟩
  cases back with
  | true =>
    rw [if_pos rfl, bind_some']
    dsimp only
    refine rest _ _ _ t0 t1 f0 f1 hrk.1 (by omega) (fun z => ?_) (fun d d0 d1 => ?_) (fun e => ?_)
    · rw [if_pos rfl]; omega
    · rw [if_pos rfl]; omega
    · omega
  | false =>
    rw [if_neg (by decide), bind_some']
    dsimp only
    refine rest _ _ _ f0 f1 t0 t1 (by omega) (by omega) (fun z => ?_) (fun d d0 d1 => ?_) (fun e => ?_)
    · rw [if_neg (by decide)]; omega
    · rw [if_neg (by decide)]; omega
    · omega
end Go.Proofs.Ytgkcmjmofcekmaa
