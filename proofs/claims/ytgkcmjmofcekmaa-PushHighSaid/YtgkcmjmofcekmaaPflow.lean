/- Package flow: what Check and Value answer. -/
import Derived.Test.YtgkcmjmofcekmaaPgraph
import Derived.Test.YtgkcmjmofcekmaaPlB
import Derived.Test.YtgkcmjmofcekmaaGflow
namespace Go.Proofs.Ytgkcmjmofcekmaa
open Go Go.Proofs.Ytgkcmjmofcekmaa.Sx
set_option linter.unusedVariables false
set_option linter.unusedSimpArgs false
/-! ### sums -/
theorem tot_two {f : Nat → Int} {a b n : Nat} (ha : a < n) (hb : b < n) (hab : a ≠ b) (h : ∀ i, i < n → i ≠ a → i ≠ b → f i = 0) : tot f n = f a + f b := by
  have e : tot f n = tot (fun i => (if i = a then f a else 0) + (if i = b then f b else 0)) n := tot_congr fun i hi => by
    by_cases h1 : i = a
    · subst h1; rw [if_pos rfl, if_neg hab]; omega
    · by_cases h2 : i = b
      · subst h2; rw [if_neg h1, if_pos rfl]; omega
      · rw [if_neg h1, if_neg h2, h i hi h1 h2]; rfl
  rw [e, tot_add, tot_single ha (fun i _ hi => if_neg hi), tot_single hb (fun i _ hi => if_neg hi), if_pos rfl, if_pos rfl]
theorem tot_abs {f : Nat → Int} {M : Int} : ∀ {n : Nat}, (∀ i, i < n → -M ≤ f i ∧ f i ≤ M) → -(M * n) ≤ tot f n ∧ tot f n ≤ M * n
  | 0, _ => by simp [tot]
  | n + 1, h => by
    have := tot_abs (n := n) fun i hi => h i (by omega)
    have := h n (by omega)
    rw [tot]
    have e : M * ((n + 1 : Nat) : Int) = M * (n : Int) + M := by rw [show ((n + 1 : Nat) : Int) = (n : Int) + 1 by omega, Int.mul_add, Int.mul_one]
    omega
/-- what arc k takes out of node x -/
def term (L : List Arc) (f : List Int) (x : Int) (k : Nat) : Int := (if (L.getD k El.d).f = x then f.getD k 0 else 0) - (if (L.getD k El.d).t = x then f.getD k 0 else 0)
def netAt (L : List Arc) (f : List Int) (x : Int) : Int := tot (term L f x) L.length
theorem tot_nodes {L : List Arc} {f : List Int} (S : Int → Int) {j : Nat} (h : ∀ k, k < j → 0 ≤ (L.getD k El.d).f ∧ (L.getD k El.d).f < 12 ∧ 0 ≤ (L.getD k El.d).t ∧ (L.getD k El.d).t < 12) :
    tot (fun x => S (x : Int) * tot (term L f (x : Int)) j) 12 = tot (fun k => f.getD k 0 * (S (L.getD k El.d).f - S (L.getD k El.d).t)) j := by
  induction j with
  | zero => simp only [tot, Int.mul_zero]; rfl
  | succ j ih =>
    have ih' := ih fun k hk => h k (by omega)
    have hj := h j (by omega)
    conv => { rhs; rw [tot] }
    rw [← ih']
    have e : tot (fun x => S (x : Int) * tot (term L f (x : Int)) (j + 1)) 12 = tot (fun x => S (x : Int) * tot (term L f (x : Int)) j + S (x : Int) * term L f (x : Int) j) 12 := tot_congr fun x _ => by rw [tot, Int.mul_add]
    rw [e, tot_add]
    congr 1
    have e2 : tot (fun x => S (x : Int) * term L f (x : Int) j) 12 = tot (fun x => S (x : Int) * (if (L.getD j El.d).f = (x : Int) then f.getD j 0 else 0) - S (x : Int) * (if (L.getD j El.d).t = (x : Int) then f.getD j 0 else 0)) 12 := tot_congr fun x _ => by rw [term, Int.mul_sub]
    rw [e2, tot_sub, tot_single (k := (L.getD j El.d).f.toNat) (by omega) (fun i _ hi => by rw [if_neg (by omega), Int.mul_zero]), tot_single (k := (L.getD j El.d).t.toNat) (by omega) (fun i _ hi => by rw [if_neg (by omega), Int.mul_zero])]
    rw [if_pos (by omega), if_pos (by omega), show (((L.getD j El.d).f.toNat : Nat) : Int) = (L.getD j El.d).f by omega, show (((L.getD j El.d).t.toNat : Nat) : Int) = (L.getD j El.d).t by omega, Int.mul_sub, Int.mul_comm (S _), Int.mul_comm (S _)]
/-! ### nets -/
structure OkNet (n : Net) : Prop where
  g : OkL ⟨n.n, n.as⟩ 0
  s0 : 0 ≤ n.s
  s1 : n.s < n.n
  t0 : 0 ≤ n.t
  t1 : n.t < n.n
  ne : n.s ≠ n.t
theorem checkNet_cases (n : Net) : (OkNet n ∧ graph_CheckNet_F n = some 0) ∨ (¬ OkNet n ∧ ∃ e, e ≠ 0 ∧ graph_CheckNet_F n = some e) := by
  unfold graph_CheckNet_F
  rw [check0_eq, bind_some']
  by_cases hc : checkF ⟨n.n, n.as⟩ 0 = 0
  · rw [if_neg (by omega)]
    have hg := (checkF_ok _ _).1 hc
    by_cases h1 : n.s < 0
    · rw [if_pos h1]; exact .inr ⟨fun h => by have := h.s0; omega, 4, by decide, rfl⟩
    by_cases h2 : n.n ≤ n.s
    · rw [if_neg h1, if_pos h2]; exact .inr ⟨fun h => by have := h.s1; omega, 4, by decide, rfl⟩
    by_cases h3 : n.t < 0
    · rw [if_neg h1, if_neg h2, if_pos h3]; exact .inr ⟨fun h => by have := h.t0; omega, 4, by decide, rfl⟩
    by_cases h4 : n.n ≤ n.t
    · rw [if_neg h1, if_neg h2, if_neg h3, if_pos h4]; exact .inr ⟨fun h => by have := h.t1; omega, 4, by decide, rfl⟩
    by_cases h5 : n.s = n.t
    · rw [if_neg h1, if_neg h2, if_neg h3, if_neg h4, if_pos h5]; exact .inr ⟨fun h => h.ne h5, 3, by decide, rfl⟩
    · rw [if_neg h1, if_neg h2, if_neg h3, if_neg h4, if_neg h5]; exact .inl ⟨⟨hg, by omega, by omega, by omega, by omega, h5⟩, rfl⟩
  · rw [if_pos hc]
    exact .inr ⟨fun h => hc ((checkF_ok _ _).2 h.g), _, hc, rfl⟩
structure Flow (n : Net) (f : List Int) : Prop where
  net : OkNet n
  len : f.length = n.as.length
  r : ∀ k, k < f.length → 0 ≤ f.getD k 0 ∧ f.getD k 0 ≤ (n.as.getD k El.d).c
  keep : ∀ x : Nat, x < 12 → (x : Int) ≠ n.s → (x : Int) ≠ n.t → netAt n.as f x = 0
theorem OkNet.arc {n : Net} (h : OkNet n) {k : Nat} (hk : k < n.as.length) : Good n.n 0 (n.as.getD k El.d) := h.g.arc _ (mem_getD hk)
theorem OkNet.small {n : Net} (h : OkNet n) {k : Nat} (hk : k < n.as.length) : 0 ≤ (n.as.getD k El.d).f ∧ (n.as.getD k El.d).f < 12 ∧ 0 ≤ (n.as.getD k El.d).t ∧ (n.as.getD k El.d).t < 12 := by
  have hG := h.arc hk
  have := hG.f0; have := hG.f1; have := hG.t0; have := hG.t1; have := h.g.n1
  dsimp only at this
  omega
theorem check_loop1 {n : Net} {f : List Int} (hn : OkNet n) (hl : f.length = n.as.length) : ∃ q, forC (flow_Check_B1 n f) f.length 0 (fun _ => (0 : Int)) = some q ∧
    (match q with | .go F => (∀ k, k < f.length → 0 ≤ f.getD k 0 ∧ f.getD k 0 ≤ (n.as.getD k El.d).c) ∧ ∀ x : Nat, F x = -netAt n.as f x | .ret r => r = 7 ∧ ¬ Flow n f) := by
  have hlen := hn.g.len
  dsimp only at hlen
  refine forC_or (f := flow_Check_B1 n f) (fun j F => (∀ k, k < j → 0 ≤ f.getD k 0 ∧ f.getD k 0 ≤ (n.as.getD k El.d).c) ∧ (∀ x : Nat, F x = -tot (term n.as f x) j) ∧ ∀ x : Nat, -(20000 * (j : Int)) ≤ F x ∧ F x ≤ 20000 * (j : Int))
    (fun q => match q with | .go F => (∀ k, k < f.length → 0 ≤ f.getD k 0 ∧ f.getD k 0 ≤ (n.as.getD k El.d).c) ∧ ∀ x : Nat, F x = -netAt n.as f x | .ret r => r = 7 ∧ ¬ Flow n f)
    ⟨fun k hk => by omega, fun x => rfl, fun x => by simp⟩ (fun j F _ hj ⟨i1, i2, i3⟩ => ?_) (fun F ⟨i1, i2, i3⟩ => ⟨fun k hk => i1 k (by omega), fun x => by rw [i2 x, netAt, hl]; simp⟩)
  have hj' : j < f.length := by omega
  have hsm := hn.small (k := j) (by omega)
  have hG := hn.arc (k := j) (by omega)
  have c1 := hG.c1
  unfold flow_Check_B1
  by_cases h1 : f.getD j 0 < 0
  · rw [if_pos h1]
    exact .inr (.inr ⟨7, rfl, rfl, fun h => by have := (h.r j hj').1; omega⟩)
  rw [if_neg h1, ck_some (by omega)]
  by_cases h2 : (n.as.getD j El.d).c < f.getD j 0
  · rw [if_pos h2]
    exact .inr (.inr ⟨7, rfl, rfl, fun h => by have := (h.r j hj').2; omega⟩)
  rw [if_neg h2]
  have b1 := i3 (n.as.getD j El.d).f.toNat
  have b2 : ∀ y, -(20000 * (j : Int)) - 10000 ≤ updF F (n.as.getD j El.d).f.toNat (F (n.as.getD j El.d).f.toNat - f.getD j 0) y ∧ updF F (n.as.getD j El.d).f.toNat (F (n.as.getD j El.d).f.toNat - f.getD j 0) y ≤ 20000 * (j : Int) := fun y => by
    have := i3 y
    unfold updF
    split <;> omega
  have b3 := b2 (n.as.getD j El.d).t.toNat
  rw [ck_some ⟨by omega, by omega⟩, ck_some (inI_small (by omega) (by omega)), ck_some ⟨by omega, by omega⟩, ck_some (inI_small (by omega) (by omega))]
  refine .inl ⟨_, rfl, fun k hk => ?_, fun x => ?_, fun x => ?_⟩
  · by_cases e : k = j
    · subst e; omega
    · exact i1 k (by omega)
  · have hx := i2 x
    have hp := i2 (n.as.getD j El.d).f.toNat
    have hq := i2 (n.as.getD j El.d).t.toNat
    rw [tot, term]
    by_cases e1 : (n.as.getD j El.d).f = (x : Int)
    · rw [if_pos e1]
      by_cases e2 : (n.as.getD j El.d).t = (x : Int)
      · rw [if_pos e2]
        have q1 : x = (n.as.getD j El.d).t.toNat := by omega
        have q2 : (n.as.getD j El.d).f.toNat = x := by omega
        unfold updF
        rw [if_pos q1, if_pos (by omega), q2]
        omega
      · rw [if_neg e2]
        have e : x = (n.as.getD j El.d).f.toNat := by omega
        unfold updF
        rw [if_neg (by omega), if_pos e, ← e]
        omega
    · rw [if_neg e1]
      by_cases e2 : (n.as.getD j El.d).t = (x : Int)
      · rw [if_pos e2]
        have e : x = (n.as.getD j El.d).t.toNat := by omega
        unfold updF
        rw [if_pos e, if_neg (by omega), ← e]
        omega
      · rw [if_neg e2]
        unfold updF
        rw [if_neg (by omega), if_neg (by omega)]
        omega
  · have := b2 x
    conv => { rw [updF] }
    split <;> omega
theorem check_loop2 {n : Net} {F : Nat → Int} : ∃ q, forC (flow_Check_B2 n F) 12 0 () = some q ∧ (match q with | .go _ => ∀ x : Nat, x < 12 → (x : Int) ≠ n.s → (x : Int) ≠ n.t → F x = 0 | .ret r => r = 8 ∧ ∃ x : Nat, x < 12 ∧ (x : Int) ≠ n.s ∧ (x : Int) ≠ n.t ∧ F x ≠ 0) := by
  refine forC_or (f := flow_Check_B2 n F) (fun j _ => ∀ x : Nat, x < j → (x : Int) ≠ n.s → (x : Int) ≠ n.t → F x = 0)
    (fun q => match q with | .go _ => ∀ x : Nat, x < 12 → (x : Int) ≠ n.s → (x : Int) ≠ n.t → F x = 0 | .ret r => r = 8 ∧ ∃ x : Nat, x < 12 ∧ (x : Int) ≠ n.s ∧ (x : Int) ≠ n.t ∧ F x ≠ 0)
    (fun x hx => by omega) (fun j _ _ hj i1 => ?_) (fun _ i1 => i1)
  unfold flow_Check_B2
  have next : (F j ≠ 0 → (j : Int) = n.s ∨ (j : Int) = n.t) → ∀ x : Nat, x < j + 1 → (x : Int) ≠ n.s → (x : Int) ≠ n.t → F x = 0 := fun h x hx h1 h2 => by
    by_cases e : x = j
    · subst e
      exact Classical.byContradiction fun z => by rcases h z with h | h <;> contradiction
    · exact i1 x (by omega) h1 h2
  by_cases h1 : F j ≠ 0
  · rw [if_pos h1]
    by_cases h2 : (j : Int) ≠ n.s
    · rw [if_pos h2]
      by_cases h3 : (j : Int) ≠ n.t
      · rw [if_pos h3]; exact .inr (.inr ⟨8, rfl, rfl, j, by omega, h2, h3, h1⟩)
      · rw [if_neg h3]; exact .inl ⟨_, rfl, next fun _ => .inr (Classical.not_not.1 h3)⟩
    · rw [if_neg h2]; exact .inl ⟨_, rfl, next fun _ => .inl (Classical.not_not.1 h2)⟩
  · rw [if_neg h1]; exact .inl ⟨_, rfl, next fun z => absurd z h1⟩
theorem flowCheck_cases (n : Net) (f : List Int) : (Flow n f ∧ flow_Check_F n f = some 0) ∨ (¬ Flow n f ∧ ∃ e, e ≠ 0 ∧ flow_Check_F n f = some e) := by
  unfold flow_Check_F
  rcases checkNet_cases n with ⟨hn, h1⟩ | ⟨hn, e, he, h1⟩
  · rw [h1, bind_some', if_neg (by decide)]
    by_cases hl : f.length = n.as.length
    · rw [if_neg (by omega)]
      obtain ⟨q, h2, h3⟩ := check_loop1 hn hl
      rw [h2, bind_some']
      match q, h3 with
      | .go F, h3 =>
        obtain ⟨q2, h4, h5⟩ := check_loop2 (n := n) (F := F)
        dsimp only
        rw [h4, bind_some']
        match q2, h5 with
        | .go _, h5 => exact .inl ⟨⟨hn, hl, h3.1, fun x hx h6 h7 => by have := h5 x hx h6 h7; have := h3.2 x; omega⟩, rfl⟩
        | .ret r, h5 =>
          obtain ⟨rfl, x, hx, h6, h7, h8⟩ := h5
          exact .inr ⟨fun h => h8 (by rw [h3.2 x, h.keep x hx h6 h7]; rfl), 8, by decide, rfl⟩
      | .ret r, h3 =>
        obtain ⟨rfl, h3⟩ := h3
        exact .inr ⟨h3, 7, by decide, rfl⟩
    · rw [if_pos (by omega)]
      exact .inr ⟨fun h => hl h.len, 3, by decide, rfl⟩
  · rw [h1, bind_some', if_pos he]
    exact .inr ⟨fun h => hn h.net, e, he, rfl⟩
theorem Flow.term_le {n : Net} {f : List Int} (h : Flow n f) (x : Int) {k : Nat} (hk : k < n.as.length) : -10000 ≤ term n.as f x k ∧ term n.as f x k ≤ 10000 := by
  have := h.r k (by rw [h.len]; exact hk)
  have := (h.net.arc hk).c1
  unfold term
  split <;> split <;> omega
theorem value_ok {n : Net} {f : List Int} (h : Flow n f) : flow_Value_F n f = some (netAt n.as f n.s, 0) := by
  have hlen := h.net.g.len
  dsimp only at hlen
  unfold flow_Value_F
  rcases flowCheck_cases n f with ⟨_, h1⟩ | ⟨h1, _⟩
  · obtain ⟨x, h2, h3⟩ := forN_inv (f := flow_Value_B1 n f) (fun j x => x = tot (term n.as f n.s) j) (n := n.as.length) (k := 0) (s := 0) rfl fun j x _ hj hx => by
      have hj' : j < n.as.length := by omega
      have hl := h.len
      have hr := h.r j (by omega)
      have hc := (h.net.arc hj').c1
      have hb := tot_abs (M := 10000) (n := j) fun i hi => h.term_le n.s (k := i) (by omega)
      rw [← hx] at hb
      refine ⟨_, ?_, rfl⟩
      unfold flow_Value_B1
      rw [tot, ← hx, term]
      by_cases e1 : (n.as.getD j El.d).f = n.s
      · rw [if_pos e1, ck_some (by omega), ck_some (inI_small (by omega) (by omega)), bind_some', if_pos e1]
        by_cases e2 : (n.as.getD j El.d).t = n.s
        · rw [if_pos e2, ck_some (by omega), ck_some (inI_small (by omega) (by omega)), if_pos e2]
          congr 1; omega
        · rw [if_neg e2, if_neg e2]; congr 1; omega
      · rw [if_neg e1, bind_some', if_neg e1]
        by_cases e2 : (n.as.getD j El.d).t = n.s
        · rw [if_pos e2, ck_some (by omega), ck_some (inI_small (by omega) (by omega)), if_pos e2]
          congr 1; omega
        · rw [if_neg e2, if_neg e2]; congr 1; omega
    rw [h1, bind_some', if_neg (by decide), h2, bind_some', h3, Nat.zero_add]
    rfl
  · exact absurd h h1
theorem value_bad {n : Net} {f : List Int} (h : ¬ Flow n f) : ∃ e, e ≠ 0 ∧ flow_Value_F n f = some (0, e) := by
  unfold flow_Value_F
  rcases flowCheck_cases n f with ⟨h1, _⟩ | ⟨_, e, he, h1⟩
  · exact absurd h1 h
  · exact ⟨e, he, by rw [h1, bind_some', if_pos he]⟩
theorem Flow.sides {n : Net} {f : List Int} (h : Flow n f) (S : Int → Int) : tot (fun k => f.getD k 0 * (S (n.as.getD k El.d).f - S (n.as.getD k El.d).t)) n.as.length = S n.s * netAt n.as f n.s + S n.t * netAt n.as f n.t := by
  have hn := h.net
  have := hn.s0; have := hn.s1; have := hn.t0; have := hn.t1; have hne := hn.ne; have h12 := hn.g.n1
  dsimp only at h12
  rw [← tot_nodes S (fun k hk => hn.small hk), tot_two (a := n.s.toNat) (b := n.t.toNat) (by omega) (by omega) (by omega) (fun i hi h1 h2 => by
    rw [show tot (term n.as f (i : Int)) n.as.length = netAt n.as f i from rfl, h.keep i hi (by omega) (by omega), Int.mul_zero])]
  rw [show ((n.s.toNat : Nat) : Int) = n.s by omega, show ((n.t.toNat : Nat) : Int) = n.t by omega]
  rfl
theorem Flow.ends {n : Net} {f : List Int} (h : Flow n f) : netAt n.as f n.s + netAt n.as f n.t = 0 := by
  have := h.sides (fun _ => 1)
  simp only [Int.sub_self, Int.mul_zero, Int.one_mul] at this
  rw [← this]
  exact tot_zero fun _ _ => rfl
end Go.Proofs.Ytgkcmjmofcekmaa
