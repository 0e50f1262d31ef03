/- Package cheap: what is left of a net by a flow; heights by which no flow is cheaper. -/
import Derived.Test.YtlelfifbmckhgaaPthree
import Derived.Test.YtlelfifbmckhgaaPmore
import Derived.Test.YtlelfifbmckhgaaGcheap
namespace Go.Proofs.Ytlelfifbmckhgaa
open Go Go.Proofs.Ytlelfifbmckhgaa.Sx
set_option linter.unusedVariables false
set_option linter.unusedSimpArgs false
structure CheapOk (n : Net) (cost : List Int) : Prop where
  net : OkNet n
  m30 : n.as.length ≤ 30
  len : cost.length = n.as.length
  rg : ∀ k, 0 ≤ cost.getD k 0 ∧ cost.getD k 0 ≤ 1000
theorem cheapCheck_cases (n : Net) (cost : List Int) : (CheapOk n cost ∧ cheap_Check_F n cost = some 0) ∨ (¬ CheapOk n cost ∧ ∃ e, e ≠ 0 ∧ cheap_Check_F n cost = some e) := by
  unfold cheap_Check_F
  rcases checkNet_cases n with ⟨hn, e⟩ | ⟨hn, e, he, h⟩
  · rw [e, bind_some', if_neg (by decide)]
    by_cases c1 : 30 < ((n.as.length : Nat) : Int)
    · rw [if_pos c1]
      exact .inr ⟨fun h => by have := h.m30; omega, 2, by decide, rfl⟩
    rw [if_neg c1]
    by_cases c2 : ((cost.length : Nat) : Int) ≠ ((n.as.length : Nat) : Int)
    · rw [if_pos c2]
      exact .inr ⟨fun h => by have := h.len; omega, 3, by decide, rfl⟩
    rw [if_neg c2]
    obtain ⟨q, e, h⟩ := forC_or (f := cheap_Check_B1 cost) (fun j _ => ∀ i, i < j → 0 ≤ cost.getD i 0 ∧ cost.getD i 0 ≤ 1000) (fun q : Ex Unit Int => (q = .go () ∧ ∀ i, i < cost.length → 0 ≤ cost.getD i 0 ∧ cost.getD i 0 ≤ 1000) ∨ (q = .ret 1 ∧ ∃ i, ¬ (0 ≤ cost.getD i 0 ∧ cost.getD i 0 ≤ 1000))) (n := cost.length) (k := 0) (s := ()) (fun i hi => absurd hi (by omega)) (fun j s _ hj hI => by
      unfold cheap_Check_B1
      by_cases c1 : cost.getD j 0 < 0
      · rw [if_pos c1]
        exact .inr (.inr ⟨_, rfl, .inr ⟨rfl, j, by omega⟩⟩)
      · rw [if_neg c1]
        by_cases c2 : 1000 < cost.getD j 0
        · rw [if_pos c2]
          exact .inr (.inr ⟨_, rfl, .inr ⟨rfl, j, by omega⟩⟩)
        · rw [if_neg c2]
          refine .inl ⟨(), rfl, fun i hi => ?_⟩
          by_cases e : i = j
          · subst e; omega
          · exact hI i (by omega)) (fun s hI => .inl ⟨rfl, fun i hi => hI i (by omega)⟩)
    rcases h with ⟨rfl, h⟩ | ⟨rfl, i, h⟩
    · rw [e, bind_some']
      refine .inl ⟨⟨hn, by omega, by omega, fun k => ?_⟩, rfl⟩
      by_cases hk : k < cost.length
      · exact h k hk
      · rw [getD_big (by omega)]; omega
    · rw [e, bind_some']
      exact .inr ⟨fun hc => h (hc.rg i), 1, by decide, rfl⟩
  · rw [h, bind_some', if_pos he]
    exact .inr ⟨fun h => hn h.net, e, he, rfl⟩
/-! ### what is left -/
def leftX (n : Net) (cost f : List Int) (k : Nat) : Arc := if f.getD k 0 < (n.as.getD k El.d).c then ⟨(n.as.getD k El.d).f, (n.as.getD k El.d).t, cost.getD k 0⟩ else ⟨(n.as.getD k El.d).f, (n.as.getD k El.d).f, 0⟩
def leftY (n : Net) (cost f : List Int) (k : Nat) : Arc := if 0 < f.getD k 0 then ⟨(n.as.getD k El.d).t, (n.as.getD k El.d).f, -(cost.getD k 0)⟩ else ⟨(n.as.getD k El.d).f, (n.as.getD k El.d).f, 0⟩
def leftN (n : Net) (cost f : List Int) : Nat → List Arc
  | 0 => []
  | j + 1 => leftN n cost f j ++ [leftX n cost f j, leftY n cost f j]
theorem leftN_len (n : Net) (cost f : List Int) : ∀ j, (leftN n cost f j).length = 2 * j
  | 0 => rfl
  | j + 1 => by
    simp only [leftN, List.length_append, List.length_cons, List.length_nil, leftN_len n cost f j]
    omega
theorem leftN_get (n : Net) (cost f : List Int) : ∀ {j k : Nat}, k < j → (leftN n cost f j).getD (2 * k) El.d = leftX n cost f k ∧ (leftN n cost f j).getD (2 * k + 1) El.d = leftY n cost f k
  | 0, k, h => absurd h (by omega)
  | j + 1, k, h => by
    have hl := leftN_len n cost f j
    simp only [leftN, List.getD_eq_getElem?_getD]
    by_cases e : k = j
    · subst e
      rw [List.getElem?_append_right (by omega), List.getElem?_append_right (by omega), hl]
      rw [show 2 * k - 2 * k = 0 by omega, show 2 * k + 1 - 2 * k = 1 by omega]
      exact ⟨rfl, rfl⟩
    · have := leftN_get n cost f (j := j) (k := k) (by omega)
      rw [List.getElem?_append_left (by omega), List.getElem?_append_left (by omega)]
      simpa only [List.getD_eq_getElem?_getD] using this
theorem leftN_mem (n : Net) (cost f : List Int) {a : Arc} : ∀ {j : Nat}, a ∈ leftN n cost f j ↔ ∃ k, k < j ∧ (a = leftX n cost f k ∨ a = leftY n cost f k)
  | 0 => by simp [leftN]
  | j + 1 => by
    rw [leftN, List.mem_append, leftN_mem n cost f (j := j)]
    constructor
    · rintro (⟨k, hk, h⟩ | h)
      · exact ⟨k, by omega, h⟩
      · exact ⟨j, by omega, by simpa using h⟩
    · rintro ⟨k, hk, h⟩
      by_cases e : k = j
      · subst e; exact .inr (by simpa using h)
      · exact .inl ⟨k, by omega, h⟩
theorem left_eq {n : Net} {cost f : List Int} (hc : CheapOk n cost) (hl : f.length = n.as.length) : cheap_left_F n cost f = some ⟨n.n, leftN n cost f n.as.length⟩ := by
  have m30 := hc.m30
  have hcl := hc.len
  obtain ⟨l, e, h⟩ := forN_inv (f := cheap_left_B1 n cost f) (fun j (l : List Arc) => l = leftN n cost f j) (n := n.as.length) (k := 0) (s := []) rfl fun j l _ hj hI => by
    subst hI
    have hlen := leftN_len n cost f j
    have hr := hc.rg j
    unfold cheap_left_B1
    rw [ck_some (by omega)]
    have e1 : (if f.getD j 0 < (n.as.getD j El.d).c then ck (j < cost.length) (some ((n.as.getD j El.d).t, cost.getD j 0)) else some ((n.as.getD j El.d).f, 0)) = some ((leftX n cost f j).t, (leftX n cost f j).c) := by
      unfold leftX
      by_cases c : f.getD j 0 < (n.as.getD j El.d).c
      · rw [if_pos c, if_pos c, ck_some (by omega)]
      · rw [if_neg c, if_neg c]
    have e2 : (ck (j < f.length) (if 0 < f.getD j 0 then ck (j < cost.length) (ck (InI (-(cost.getD j 0))) (some ((n.as.getD j El.d).t, -(cost.getD j 0)))) else some ((n.as.getD j El.d).f, 0))) = some ((leftY n cost f j).f, (leftY n cost f j).c) := by
      unfold leftY
      rw [ck_some (by omega)]
      by_cases c : 0 < f.getD j 0
      · rw [if_pos c, if_pos c, ck_some (by omega), ck_some (inI_small (by omega) (by omega))]
      · rw [if_neg c, if_neg c]
    rw [e1, bind_some']
    dsimp only
    rw [e2, bind_some']
    dsimp only
    rw [ck_some (by omega)]
    refine ⟨_, rfl, ?_⟩
    rw [leftN]
    congr 1
    have x1 : (⟨(n.as.getD j El.d).f, (leftX n cost f j).t, (leftX n cost f j).c⟩ : Arc) = leftX n cost f j := by
      unfold leftX; split <;> rfl
    have x2 : (⟨(leftY n cost f j).f, (n.as.getD j El.d).f, (leftY n cost f j).c⟩ : Arc) = leftY n cost f j := by
      unfold leftY; split <;> rfl
    rw [x1, x2]
  unfold cheap_left_F
  rw [e, bind_some', h, Nat.zero_add]
theorem left_ok {n : Net} {cost f : List Int} (hc : CheapOk n cost) : Ok ⟨n.n, leftN n cost f n.as.length⟩ := by
  have hn := hc.net.g
  refine ⟨hn.n0, hn.n1, by dsimp only; rw [leftN_len]; have := hc.m30; omega, fun a ha => ?_⟩
  obtain ⟨k, hk, h⟩ := (leftN_mem n cost f).1 ha
  have hG := hc.net.arc hk
  have hr := hc.rg k
  have := hG.f0; have := hG.f1; have := hG.t0; have := hG.t1
  rcases h with rfl | rfl
  · unfold leftX
    split <;> exact ⟨by dsimp only; omega, by dsimp only; omega, by dsimp only; omega, by dsimp only; omega, by dsimp only; omega, by dsimp only; omega⟩
  · unfold leftY
    split <;> exact ⟨by dsimp only; omega, by dsimp only; omega, by dsimp only; omega, by dsimp only; omega, by dsimp only; omega, by dsimp only; omega⟩
/-! ### heights -/
def ht (h : List Int) (x : Int) : Int := h.getD x.toNat 0
/-- along all that is left no height rises by more than the cost -/
def Pot (n : Net) (cost f h : List Int) : Prop := ∀ k, k < n.as.length → (f.getD k 0 < (n.as.getD k El.d).c → ht h (n.as.getD k El.d).t ≤ ht h (n.as.getD k El.d).f + cost.getD k 0) ∧ (0 < f.getD k 0 → ht h (n.as.getD k El.d).f + cost.getD k 0 ≤ ht h (n.as.getD k El.d).t)
theorem Pot.arc {n : Net} {cost f h : List Int} (hp : Pot n cost f h) : ∀ a, a ∈ leftN n cost f n.as.length → h.getD a.t.toNat 0 ≤ h.getD a.f.toNat 0 + a.c := fun a ha => by
  obtain ⟨k, hk, e⟩ := (leftN_mem n cost f).1 ha
  have := hp k hk
  unfold ht at this
  rcases e with rfl | rfl
  · unfold leftX
    split
    · rename_i c; exact this.1 c
    · dsimp only; omega
  · unfold leftY
    split
    · rename_i c
      have := this.2 c
      dsimp only; omega
    · dsimp only; omega
theorem Pot.of_arc {n : Net} {cost f h : List Int} (hp : ∀ a, a ∈ leftN n cost f n.as.length → h.getD a.t.toNat 0 ≤ h.getD a.f.toNat 0 + a.c) : Pot n cost f h := fun k hk => by
  have h1 := hp (leftX n cost f k) ((leftN_mem n cost f).2 ⟨k, hk, .inl rfl⟩)
  have h2 := hp (leftY n cost f k) ((leftN_mem n cost f).2 ⟨k, hk, .inr rfl⟩)
  unfold leftX at h1
  unfold leftY at h2
  unfold ht
  constructor
  · intro c
    rw [if_pos c] at h1
    exact h1
  · intro c
    rw [if_pos c] at h2
    dsimp only at h2
    omega
def costF (n : Net) (cost f : List Int) : Int := tot (fun k => f.getD k 0 * cost.getD k 0) n.as.length
theorem cost_diff {n : Net} {cost f g : List Int} (hf : Flow n f) (hg : Flow n g) (S : Int → Int) :
    tot (fun k => (g.getD k 0 - f.getD k 0) * (cost.getD k 0 + S (n.as.getD k El.d).f - S (n.as.getD k El.d).t)) n.as.length = costF n cost g - costF n cost f - (S n.t - S n.s) * (netAt n.as g n.s - netAt n.as f n.s) := by
  have e1 : tot (fun k => (g.getD k 0 - f.getD k 0) * (cost.getD k 0 + S (n.as.getD k El.d).f - S (n.as.getD k El.d).t)) n.as.length = tot (fun k => (g.getD k 0 * cost.getD k 0 + g.getD k 0 * (S (n.as.getD k El.d).f - S (n.as.getD k El.d).t)) - (f.getD k 0 * cost.getD k 0 + f.getD k 0 * (S (n.as.getD k El.d).f - S (n.as.getD k El.d).t))) n.as.length := tot_congr fun k _ => by
    rw [Int.add_sub_assoc, Int.sub_mul, Int.mul_add, Int.mul_add]
  have s1 := hf.sides S
  have s2 := hg.sides S
  have n1 := hf.ends
  have n2 := hg.ends
  rw [e1, tot_sub (fun k => g.getD k 0 * cost.getD k 0 + g.getD k 0 * (S (n.as.getD k El.d).f - S (n.as.getD k El.d).t)) (fun k => f.getD k 0 * cost.getD k 0 + f.getD k 0 * (S (n.as.getD k El.d).f - S (n.as.getD k El.d).t)), tot_add (fun k => g.getD k 0 * cost.getD k 0) (fun k => g.getD k 0 * (S (n.as.getD k El.d).f - S (n.as.getD k El.d).t)), tot_add (fun k => f.getD k 0 * cost.getD k 0) (fun k => f.getD k 0 * (S (n.as.getD k El.d).f - S (n.as.getD k El.d).t)), s1, s2]
  rw [show netAt n.as f n.t = - netAt n.as f n.s by omega, show netAt n.as g n.t = - netAt n.as g n.s by omega]
  unfold costF
  rw [Int.sub_mul, Int.mul_sub, Int.mul_sub, Int.mul_neg, Int.mul_neg]
  omega
/-- where there are heights, no flow is cheaper -/
theorem Pot.opt {n : Net} {cost f g h : List Int} (hp : Pot n cost f h) (hf : Flow n f) (hg : Flow n g) : costF n cost f + (ht h n.t - ht h n.s) * (netAt n.as g n.s - netAt n.as f n.s) ≤ costF n cost g := by
  have hd := cost_diff (cost := cost) hf hg (ht h)
  have h0 : 0 ≤ tot (fun k => (g.getD k 0 - f.getD k 0) * (cost.getD k 0 + ht h (n.as.getD k El.d).f - ht h (n.as.getD k El.d).t)) n.as.length := tot_nonneg fun k hk => by
    have := hp k hk
    have r1 := hf.r k (by rw [hf.len]; exact hk)
    have r2 := hg.r k (by rw [hg.len]; exact hk)
    rcases Int.lt_trichotomy (f.getD k 0) (g.getD k 0) with c | c | c
    · exact Int.mul_nonneg (by omega) (by have := this.1 (by omega); omega)
    · rw [c, Int.sub_self, Int.zero_mul]; exact Int.le_refl _
    · have a := this.2 (by omega)
      have := Int.mul_nonneg (a := f.getD k 0 - g.getD k 0) (b := ht h (n.as.getD k El.d).t - ht h (n.as.getD k El.d).f - cost.getD k 0) (by omega) (by omega)
      rw [← Int.neg_mul_neg]
      rw [show -(g.getD k 0 - f.getD k 0) = f.getD k 0 - g.getD k 0 by omega, show -(cost.getD k 0 + ht h (n.as.getD k El.d).f - ht h (n.as.getD k El.d).t) = ht h (n.as.getD k El.d).t - ht h (n.as.getD k El.d).f - cost.getD k 0 by omega]
      exact this
  omega
/-- a flow that differs from one on tight arcs alone -/
theorem tight_cost {n : Net} {cost f g h : List Int} (hf : Flow n f) (hg : Flow n g) (ht' : ∀ k, k < n.as.length → g.getD k 0 ≠ f.getD k 0 → ht h (n.as.getD k El.d).t = ht h (n.as.getD k El.d).f + cost.getD k 0) : costF n cost g = costF n cost f + (ht h n.t - ht h n.s) * (netAt n.as g n.s - netAt n.as f n.s) := by
  have hd := cost_diff (cost := cost) hf hg (ht h)
  rw [tot_zero fun k hk => by
    by_cases c : g.getD k 0 = f.getD k 0
    · rw [c, Int.sub_self, Int.zero_mul]
    · have := ht' k hk c
      rw [show cost.getD k 0 + ht h (n.as.getD k El.d).f - ht h (n.as.getD k El.d).t = 0 by omega, Int.mul_zero]] at hd
  omega
theorem Pot.tight {n : Net} {cost f g h : List Int} (hp : Pot n cost f h) (ht' : ∀ k, k < n.as.length → g.getD k 0 ≠ f.getD k 0 → ht h (n.as.getD k El.d).t = ht h (n.as.getD k El.d).f + cost.getD k 0) : Pot n cost g h := fun k hk => by
  by_cases c : g.getD k 0 = f.getD k 0
  · rw [c]; exact hp k hk
  · have := ht' k hk c
    exact ⟨fun _ => by omega, fun _ => by omega⟩
theorem cost_rg {n : Net} {cost f : List Int} (hc : CheapOk n cost) (hf : Flow n f) : 0 ≤ costF n cost f ∧ costF n cost f ≤ 300000000 := by
  have m30 := hc.m30
  have each : ∀ k, k < n.as.length → 0 ≤ f.getD k 0 * cost.getD k 0 ∧ f.getD k 0 * cost.getD k 0 ≤ 10000000 := fun k hk => by
    have r1 := hf.r k (by rw [hf.len]; exact hk)
    have r2 := hc.rg k
    have hG := hc.net.arc hk
    have c1 := hG.c1
    refine ⟨Int.mul_nonneg r1.1 r2.1, ?_⟩
    have : f.getD k 0 * cost.getD k 0 ≤ 10000 * 1000 := Int.mul_le_mul (by omega) r2.2 r2.1 (by decide)
    omega
  have h1 := tot_nonneg (f := fun k => f.getD k 0 * cost.getD k 0) (n := n.as.length) fun k hk => (each k hk).1
  have h2 := tot_le (f := fun k => f.getD k 0 * cost.getD k 0) (g := fun _ => 10000000) (n := n.as.length) fun k hk => (each k hk).2
  rw [tot_const] at h2
  unfold costF
  omega
theorem low_list (h : List Int) : ∃ B : Int, 0 ≤ B ∧ ∀ i, -B ≤ h.getD i 0 := by
  induction h with
  | nil => exact ⟨0, Int.le_refl _, fun i => by simp⟩
  | cons a h ih =>
    obtain ⟨B, h0, hB⟩ := ih
    refine ⟨B + (if a < 0 then -a else 0), by split <;> omega, fun i => ?_⟩
    cases i with
    | zero => rw [List.getD_cons_zero]; split <;> omega
    | succ i =>
      have := hB i
      rw [List.getD_cons_succ]; split <;> omega
/-- new heights: how far the nodes are that are known, and the others far above -/
theorem Pot.next {n : Net} {cost f h : List Int} (hc : CheapOk n cost) (hp : Pot n cost f h) {F : List Int} {K : List Bool} (hA : Away ⟨n.n, leftN n cost f n.as.length⟩ n.s F K) :
    ∃ h', Pot n cost f h' ∧ ∀ x, 0 ≤ x → x < n.n → K.getD x.toNat false = true → ht h' x = F.getD x.toNat 0 := by
  obtain ⟨B, B0, hB⟩ := low_list h
  have val : ∀ x, 0 ≤ x → x < n.n → ht (nodes (fun x => if K.getD x.toNat false = true then F.getD x.toNat 0 else h.getD x.toNat 0 + (B + 7810000)) n.n) x = if K.getD x.toNat false = true then F.getD x.toNat 0 else h.getD x.toNat 0 + (B + 7810000) := fun x h0 h1 => by
    unfold ht
    rw [nodes_getD _ (by omega), show ((x.toNat : Nat) : Int) = x by omega]
  refine ⟨nodes (fun x => if K.getD x.toNat false = true then F.getD x.toNat 0 else h.getD x.toNat 0 + (B + 7810000)) n.n, fun k hk => ?_, fun x h0 h1 hk => by rw [val x h0 h1, if_pos hk]⟩
  have hG := hc.net.arc hk
  have hr := hc.rg k
  have s1 := hA.stab _ ((leftN_mem n cost f (j := n.as.length)).2 ⟨k, hk, .inl rfl⟩)
  have s2 := hA.stab _ ((leftN_mem n cost f (j := n.as.length)).2 ⟨k, hk, .inr rfl⟩)
  have hpk := hp k hk
  unfold Go.Proofs.Ytlelfifbmckhgaa.Stab at s1 s2
  unfold ht at hpk
  rw [val _ hG.t0 hG.t1, val _ hG.f0 hG.f1]
  have b1 := hB (n.as.getD k El.d).f.toNat; have b2 := hB (n.as.getD k El.d).t.toNat
  have a1 := hA.hi (n.as.getD k El.d).f.toNat; have a2 := hA.hi (n.as.getD k El.d).t.toNat
  constructor
  · intro c
    unfold leftX at s1
    rw [if_pos c] at s1
    dsimp only at s1
    by_cases c1 : K.getD (n.as.getD k El.d).f.toNat false = true
    · have := s1 c1
      rw [if_pos c1, if_pos this.1]; exact this.2
    · rw [if_neg c1]
      have := hpk.1 c
      split <;> omega
  · intro c
    unfold leftY at s2
    rw [if_pos c] at s2
    dsimp only at s2
    by_cases c1 : K.getD (n.as.getD k El.d).t.toNat false = true
    · have := s2 c1
      rw [if_pos c1, if_pos this.1]; omega
    · rw [if_neg c1]
      have := hpk.2 c
      split <;> omega
end Go.Proofs.Ytlelfifbmckhgaa
