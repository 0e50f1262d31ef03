/- CheapFirst: the law's function answers true. -/
import Derived.Test.YtlelfifbmckhgaaPcheap2
import Derived.Test.YtlelfifbmckhgaaKCheapFirst
namespace Go.Proofs.Ytlelfifbmckhgaa
open Go Go.Proofs.Ytlelfifbmckhgaa.Sx
set_option linter.unusedVariables false
set_option linter.unusedSimpArgs false
theorem boughtF_ok : weirkeep_bought_F = some true := by kernel_rfl
theorem cheap_round2 {n : Net} {cost : List Int} (hc : CheapOk n cost) {x9 amount : Int} (h9 : 0 < x9) (hx : x9 ≤ 1000000000) {f : List Int} {sum : Int} (h : CheapF n cost f (amount - x9) sum) :
    ∃ F K, Away ⟨n.n, leftN n cost f n.as.length⟩ n.s F K ∧ ((K.getD n.t.toNat false ≠ true ∧ cheap_Of_B1 n cost (x9, f, sum) = some (.ret ([], 0, 5))) ∨ (K.getD n.t.toNat false = true ∧ ∃ r g, 1 ≤ r ∧ r ≤ x9 ∧ cheap_Of_B1 n cost (x9, f, sum) = some (.go (x9 - r, g, sum + r * F.getD n.t.toNat 0)))) := by
  have hf := h.flow
  have hn := hc.net
  have n12 := hn.g.n1; have s0 := hn.s0; have s1 := hn.s1; have t0 := hn.t0; have t1 := hn.t1
  dsimp only at n12
  obtain ⟨hh, hp, hle⟩ := h.pot
  obtain ⟨F, K, eF, hA⟩ := from_awayH (left_ok (f := f) hc) hp.arc s0 s1
  have l0 := hA.l0; have l1 := hA.l1
  dsimp only at l0 l1
  refine ⟨F, K, hA, ?_⟩
  unfold cheap_Of_B1
  dsimp only
  rw [if_pos h9, left_eq hc hf.len, bind_some', eF, bind_some']
  dsimp only
  rw [ck_some (by omega)]
  by_cases hK : K.getD n.t.toNat false = true
  · refine .inr ⟨hK, ?_⟩
    rw [if_neg (by rw [hK]; decide)]
    obtain ⟨cs, r, eb, hT, hcs⟩ := back_ok hc hf.win hA hK
    have hpos := hT.pos; have hbig := hT.big
    have hT' := hT.less (r' := min r x9) (by omega) (by omega)
    obtain ⟨g, eg, hg, hval, hold⟩ := augment2 hf hT'
    rw [eb, bind_some']
    dsimp only
    have m30 := hc.m30
    rw [code_steps (fun i hi => by have := (hcs i hi).1; omega) eg, bind_some', ck_some (by omega)]
    obtain ⟨h', hp', hF'⟩ := hp.next hc hA
    have hFt := hF' n.t t0 t1 hK
    have hFs := hF' n.s s0 s1 hA.ks
    rw [hA.zero] at hFs
    have hge := cost_ge hp.arc (hA.way n.t t0 t1 hK)
    unfold ht at hle
    have tight : ∀ k, k < n.as.length → g.getD k 0 ≠ f.getD k 0 → ht h' (n.as.getD k El.d).t = ht h' (n.as.getD k El.d).f + cost.getD k 0 := fun k hk hne => by
      obtain ⟨i, hi, ei⟩ := hold k hk hne
      rw [List.length_map] at hi
      have g1 : (cs.map dec).getD i El.d = dec (cs.getD i 0) := by simp [List.getD_eq_getElem?_getD, hi]
      rw [g1] at ei
      obtain ⟨c1, y, c2, c3⟩ := hcs i hi
      have ek : cs.getD i 0 / 2 = k := by unfold dec at ei; dsimp only at ei; omega
      have ct := c2.t
      have ce := c2.eq
      have ck' := c2.kn
      have hy : y = (codeA n cost f (cs.getD i 0)).t.toNat := by omega
      rw [hy] at ce ck'
      obtain ⟨w1, w2⟩ := codeA_tight (F := F) c1 c3 ce
      rw [ek] at w1 w2
      have hG := hn.arc hk
      -- both ends are known
      have kf : K.getD (codeA n cost f (cs.getD i 0)).f.toNat false = true := c2.kf
      have both : K.getD (n.as.getD k El.d).f.toNat false = true ∧ K.getD (n.as.getD k El.d).t.toNat false = true := by
        rcases w2 with ⟨a, b⟩ | ⟨a, b⟩
        · rw [a] at kf; rw [b] at ck'; exact ⟨kf, ck'⟩
        · rw [a] at kf; rw [b] at ck'; exact ⟨ck', kf⟩
      rw [hF' _ hG.t0 hG.t1 both.2, hF' _ hG.f0 hG.f1 both.1]
      exact w1
    have hcost := tight_cost (cost := cost) hf hg tight
    rw [hval, hFt, hFs] at hcost
    have b1 := cost_rg hc hf
    have b2 := cost_rg hc hg
    have hc0 := h.cst
    have e1 : (F.getD n.t.toNat 0 - 0) * (netAt n.as f n.s + min r x9 - netAt n.as f n.s) = min r x9 * F.getD n.t.toNat 0 := by
      rw [Int.sub_zero, show netAt n.as f n.s + min r x9 - netAt n.as f n.s = min r x9 by omega, Int.mul_comm]
    rw [e1] at hcost
    rw [ck_some (inI_small (by omega) (by omega)), ck_some (inI_small (by omega) (by omega)), ck_some (inI_small (by omega) (by omega))]
    exact ⟨min r x9, g, by omega, by omega, rfl⟩
  · left
    rw [if_pos (by rw [Bool.not_eq_true] at hK; rw [hK]; rfl)]
    exact ⟨hK, rfl⟩
theorem zero_start {n : Net} {cost : List Int} (hc : CheapOk n cost) : CheapF n cost (List.replicate n.as.length 0) 0 0 := by
  have hz := flow_zero hc.net
  have c0 : costF n cost (List.replicate n.as.length 0) = 0 := tot_zero fun k hk => by
    rw [getD_replicate']; split <;> rw [Int.zero_mul]
  have v0 : netAt n.as (List.replicate n.as.length 0) n.s = 0 := tot_zero fun k hk => by
    unfold term
    rw [getD_replicate', if_pos hk]
    split <;> split <;> rfl
  exact ⟨hz, v0, c0, [], fun k hk => by
    have hr := hc.rg k
    have : ∀ x, ht [] x = 0 := fun x => by simp [ht]
    rw [this, this, getD_replicate', if_pos hk]
    exact ⟨fun _ => by omega, fun z => by omega⟩, by simp [ht]⟩
/-- the first unit goes a cheapest way -/
theorem cheap_one {n : Net} {cost : List Int} (hc : CheapOk n cost) : ∃ F K, Away ⟨n.n, leftN n cost (List.replicate n.as.length 0) n.as.length⟩ n.s F K ∧ ((K.getD n.t.toNat false ≠ true ∧ cheap_Of_F n cost 1 = some ([], 0, 5)) ∨ (K.getD n.t.toNat false = true ∧ ∃ f, cheap_Of_F n cost 1 = some (f, F.getD n.t.toNat 0, 0))) := by
  have hck : cheap_Check_F n cost = some 0 := by
    rcases cheapCheck_cases n cost with ⟨_, e⟩ | ⟨z, _⟩
    · exact e
    · exact absurd hc z
  have m30 := hc.m30
  obtain ⟨F, K, hA, h⟩ := cheap_round2 hc (x9 := 1) (amount := 1) (by decide) (by decide) (zero_start hc)
  refine ⟨F, K, hA, ?_⟩
  rcases h with ⟨hK, e⟩ | ⟨hK, r, g, r1, r2, e⟩
  · left
    refine ⟨hK, ?_⟩
    obtain ⟨q, eq, h⟩ := loopC_or (f := cheap_Of_B1 n cost) (fun τ => τ = (1, List.replicate n.as.length 0, 0)) (fun q => q = .ret ([], 0, 5)) (fun _ => 0) (fun τ hτ => .inr (.inr ⟨_, by rw [hτ]; exact e, rfl⟩)) (n := 1000000) (s := (1, List.replicate n.as.length 0, 0)) rfl (by decide)
    subst h
    unfold cheap_Of_F
    rw [hck, bind_some', if_neg (by decide), if_neg (by decide), ck_some (by omega), Int.toNat_natCast, eq, bind_some']
  · right
    refine ⟨hK, ?_⟩
    obtain rfl : r = 1 := by omega
    obtain ⟨q, eq, f, h⟩ := loopC_or (f := cheap_Of_B1 n cost) (fun τ => τ = (1, List.replicate n.as.length 0, 0) ∨ ∃ f, τ = (0, f, F.getD n.t.toNat 0)) (fun q => ∃ f, q = .go (0, f, F.getD n.t.toNat 0)) (fun τ => τ.1.toNat) (fun τ hτ => by
      rcases hτ with rfl | ⟨f, rfl⟩
      · refine .inl ⟨_, e, .inr ⟨g, ?_⟩, by dsimp only; omega⟩
        rw [Int.zero_add, Int.one_mul]
        rfl
      · refine .inr (.inl ⟨_, ?_, f, rfl⟩)
        unfold cheap_Of_B1
        dsimp only
        rw [if_neg (by decide)]) (n := 1000000) (s := (1, List.replicate n.as.length 0, 0)) (.inl rfl) (show (1 : Int).toNat < 1000000 by decide)
    subst h
    refine ⟨f, ?_⟩
    unfold cheap_Of_F
    rw [hck, bind_some', if_neg (by decide), if_neg (by decide), ck_some (by omega), Int.toNat_natCast, eq, bind_some']
/-- the arcs that take something -/
def posN (n : Net) (cost : List Int) : Nat → List Arc
  | 0 => []
  | j + 1 => if 0 < (n.as.getD j El.d).c then posN n cost j ++ [⟨(n.as.getD j El.d).f, (n.as.getD j El.d).t, cost.getD j 0⟩] else posN n cost j
theorem posN_mem (n : Net) (cost : List Int) {a : Arc} : ∀ {j : Nat}, a ∈ posN n cost j ↔ ∃ k, k < j ∧ 0 < (n.as.getD k El.d).c ∧ a = ⟨(n.as.getD k El.d).f, (n.as.getD k El.d).t, cost.getD k 0⟩
  | 0 => by simp [posN]
  | j + 1 => by
    rw [posN]
    by_cases c : 0 < (n.as.getD j El.d).c
    · rw [if_pos c, List.mem_append, posN_mem n cost (j := j)]
      constructor
      · rintro (⟨k, hk, h⟩ | h)
        · exact ⟨k, by omega, h⟩
        · exact ⟨j, by omega, c, by simpa using h⟩
      · rintro ⟨k, hk, h1, h2⟩
        by_cases e : k = j
        · subst e; exact .inr (by simpa using h2)
        · exact .inl ⟨k, by omega, h1, h2⟩
    · rw [if_neg c, posN_mem n cost (j := j)]
      constructor
      · rintro ⟨k, hk, h⟩
        exact ⟨k, by omega, h⟩
      · rintro ⟨k, hk, h1, h2⟩
        by_cases e : k = j
        · subst e; exact absurd h1 c
        · exact ⟨k, by omega, h1, h2⟩
theorem posN_len (n : Net) (cost : List Int) : ∀ j, (posN n cost j).length ≤ j
  | 0 => Nat.le_refl _
  | j + 1 => by
    have := posN_len n cost j
    rw [posN]
    split
    · simp only [List.length_append, List.length_cons, List.length_nil]; omega
    · omega
theorem CheapFirst_true (n : Net) (cost : List Int) : weirkeep_CheapFirst_F n cost = some true := by
  unfold weirkeep_CheapFirst_F
  rw [boughtF_ok, bind_some', if_neg (by decide)]
  by_cases hc : CheapOk n cost
  · have hn := hc.net
    have n12 := hn.g.n1; have s0 := hn.s0; have s1 := hn.s1; have t0 := hn.t0; have t1 := hn.t1
    dsimp only at n12
    have m30 := hc.m30
    have hcl := hc.len
    obtain ⟨F, K, hA, h1⟩ := cheap_one hc
    have hz := zero_start hc
    obtain ⟨f0, e0⟩ : ∃ f0, cheap_Of_F n cost 0 = some (f0, 0, 0) := by
      rcases of_cheap hc (amount := 0) (by decide) (by decide) with ⟨f, s, e, h⟩ | ⟨_, no⟩
      · refine ⟨f, ?_⟩
        obtain ⟨hh, hp, _⟩ := h.pot
        have := hp.opt h.flow hz.flow
        rw [hz.cst, hz.val, h.val, Int.sub_self, Int.mul_zero] at this
        have := cost_rg hc h.flow
        have := h.cst
        obtain rfl : s = 0 := by omega
        exact e
      · have := no _ hz.flow
        have := hz.val
        omega
    have hok : Ok ⟨n.n, posN n cost n.as.length⟩ := by
      have := posN_len n cost n.as.length
      refine ⟨hn.g.n0, hn.g.n1, by dsimp only; omega, fun a ha => ?_⟩
      obtain ⟨k, hk, _, rfl⟩ := (posN_mem n cost).1 ha
      have hG := hn.arc hk
      have hr := hc.rg k
      exact ⟨hG.f0, hG.f1, hG.t0, hG.t1, by dsimp only; omega, by dsimp only; omega⟩
    have hpos : ∀ a, a ∈ posN n cost n.as.length → ([] : List Int).getD a.t.toNat 0 ≤ ([] : List Int).getD a.f.toNat 0 + a.c := fun a ha => by
      obtain ⟨k, hk, _, rfl⟩ := (posN_mem n cost).1 ha
      have hr := hc.rg k
      have e0 : ∀ i, ([] : List Int).getD i 0 = 0 := fun i => by simp
      rw [e0, e0]
      dsimp only
      omega
    obtain ⟨F', K', eF, hA'⟩ := from_awayH hok (h := []) hpos s0 s1
    have l0 := hA'.l0; have l1 := hA'.l1
    dsimp only at l0 l1
    obtain ⟨l, el, hl⟩ := forN_inv (f := weirkeep_CheapFirst_B1 n cost) (fun j (l : List Arc) => l = posN n cost j) (n := n.as.length) (k := 0) (s := []) rfl fun j l _ hj hI => by
      subst hI
      have := posN_len n cost j
      unfold weirkeep_CheapFirst_B1
      rw [if_pos (by omega)]
      by_cases c : 0 < (n.as.getD j El.d).c
      · rw [if_pos c, ck_some (by omega), ck_some (by omega)]
        exact ⟨_, rfl, by rw [posN, if_pos c]⟩
      · rw [if_neg c]
        exact ⟨_, rfl, by rw [posN, if_neg c]⟩
    rw [Nat.zero_add] at hl
    -- the ways of both are alike
    have to1 : ∀ {x w : Int}, Cost (posN n cost n.as.length) n.s x w → Cost (leftN n cost (List.replicate n.as.length 0) n.as.length) n.s x w := fun {x w} h => by
      induction h with
      | nil => exact .nil
      | snoc h ha ih =>
        refine .snoc ih ?_
        obtain ⟨k, hk, c, rfl⟩ := (posN_mem n cost).1 ha
        refine (leftN_mem n cost _).2 ⟨k, hk, .inl ?_⟩
        unfold leftX
        rw [getD_replicate', if_pos hk, if_pos c]
    have to2 : ∀ {x w : Int}, Cost (leftN n cost (List.replicate n.as.length 0) n.as.length) n.s x w → Cost (posN n cost n.as.length) n.s x w := fun {x w} h => by
      induction h with
      | nil => exact .nil
      | snoc h ha ih =>
        obtain ⟨k, hk, e⟩ := (leftN_mem n cost _).1 ha
        unfold leftX leftY at e
        rw [getD_replicate', if_pos hk] at e
        rcases e with e | e
        · by_cases c : 0 < (n.as.getD k El.d).c
          · rw [if_pos c] at e
            exact .snoc ih ((posN_mem n cost).2 ⟨k, hk, c, e⟩)
          · rw [if_neg c] at e
            subst e
            dsimp only at ih ⊢
            rw [Int.add_zero]
            exact ih
        · rw [if_neg (by omega)] at e
          subst e
          dsimp only at ih ⊢
          rw [Int.add_zero]
          exact ih
    have kk : K.getD n.t.toNat false = K'.getD n.t.toNat false := by
      cases c : K.getD n.t.toNat false with
      | true => exact ((hA'.le (to2 (hA.way n.t t0 t1 c)) hA'.ks).1).symm
      | false =>
        cases c' : K'.getD n.t.toNat false with
        | false => rfl
        | true =>
          have := (hA.le (to1 (hA'.way n.t t0 t1 c')) hA.ks).1
          rw [c] at this
          cases this
    have ff : K.getD n.t.toNat false = true → F.getD n.t.toNat 0 = F'.getD n.t.toNat 0 := fun c => by
      have a := (hA'.le (to2 (hA.way n.t t0 t1 c)) hA'.ks).2
      have b := (hA.le (to1 (hA'.way n.t t0 t1 (by rw [← kk]; exact c))) hA.ks).2
      have z := hA.zero; have z' := hA'.zero
      omega
    rcases h1 with ⟨hK, e1⟩ | ⟨hK, f1, e1⟩
    · rw [e1, bind_some']
      dsimp only
      rw [e0, bind_some']
      dsimp only
      rw [if_neg (by decide), el, bind_some', hl, eF, bind_some']
      dsimp only
      rw [if_neg (by decide), if_neg (by omega), if_neg (by omega), if_neg (by decide), ck_some (by omega), ← kk]
      have hK' : K.getD n.t.toNat false = false := by simpa using hK
      rw [hK', if_pos (by decide), if_neg (by decide)]
      rfl
    · rw [e1, bind_some']
      dsimp only
      rw [e0, bind_some']
      dsimp only
      rw [if_neg (by decide), el, bind_some', hl, eF, bind_some']
      dsimp only
      rw [if_neg (by decide), if_neg (by omega), if_neg (by omega), if_neg (by decide), ck_some (by omega), ← kk, hK, if_pos (by decide), if_pos rfl, ck_some (by omega), if_pos (ff hK)]
  · obtain ⟨e, he, h0, h1⟩ := of_cheap_bad hc 1
    obtain ⟨e', he', h0', h2⟩ := of_cheap_bad hc 0
    rw [h0] at h0'
    injection h0' with h0'
    rw [h1, bind_some']
    dsimp only
    rw [h2, bind_some']
    dsimp only
    rw [if_pos he']
    exact congrArg some (decide_eq_true h0')
end Go.Proofs.Ytlelfifbmckhgaa
