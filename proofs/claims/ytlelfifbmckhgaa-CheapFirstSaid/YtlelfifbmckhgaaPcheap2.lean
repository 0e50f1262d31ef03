/- Package cheap: Of answers a cheapest flow. -/
import Derived.Test.YtlelfifbmckhgaaPback
namespace Go.Proofs.Ytlelfifbmckhgaa
open Go Go.Proofs.Ytlelfifbmckhgaa.Sx
set_option linter.unusedVariables false
set_option linter.unusedSimpArgs false
theorem forN_imp {σ : Type} {f g : Nat → σ → Option σ} : ∀ {n k : Nat} {s t : σ}, (∀ j s s', k ≤ j → j < k + n → f j s = some s' → g j s = some s') → forN f n k s = some t → forN g n k s = some t
  | 0, k, s, t, _, h => h
  | n + 1, k, s, t, hfg, h => by
    rw [forN] at h ⊢
    cases hf : f k s with
    | none => rw [hf] at h; cases h
    | some s1 =>
      rw [hf, bind_some'] at h
      rw [hfg k s s1 (Nat.le_refl _) (by omega) hf, bind_some']
      exact forN_imp (fun j s s' h1 h2 => hfg j s s' (by omega) (by omega)) h
theorem Trail.less {n : Net} {f : List Int} {l : List Step} {r r' : Int} (h : Trail n f l r) (h0 : 0 < r') (hle : r' ≤ r) : Trail n f l r' :=
  ⟨h0, by have := h.big; omega, h.nd, fun i hi => by have := h.room i hi; omega, h.apart⟩
theorem augment2 {n : Net} {f : List Int} (hf : Flow n f) {l : List Step} {r : Int} (hT : Trail n f l r) : ∃ g, forN (most_More_B2 l r) l.length 0 f = some g ∧ Flow n g ∧ netAt n.as g n.s = netAt n.as f n.s + r ∧ ∀ k, k < n.as.length → g.getD k 0 ≠ f.getD k 0 → ∃ i, i < l.length ∧ (l.getD i El.d).arc = (k : Int) := by
  obtain ⟨nd, z0, z1, hst⟩ := hT.nd
  obtain ⟨g, e, hg⟩ := forN_inv (f := most_More_B2 l r) (fun j g => Aug n f l r nd j g) (n := l.length) (k := 0) (s := f) ⟨hf.len, fun k _ _ => rfl, fun k hk => hf.r k (by rw [hf.len]; exact hk), fun z => by rw [z0, Int.sub_self, Int.mul_zero, Int.add_zero]⟩ fun j g _ hj h => aug_step hf.win hT hst (by omega) h
  rw [Nat.zero_add] at hg
  have hn := hf.net
  refine ⟨g, e, ⟨hn, hg.len, fun k hk => hg.rg k (by rw [← hg.len]; exact hk), fun x hx h1 h2 => ?_⟩, ?_, fun k hk hne => ?_⟩
  · rw [hg.net, z1, if_neg (fun e => h1 e.symm), if_neg (fun e => h2 e.symm), Int.sub_self, Int.mul_zero, Int.add_zero]; exact hf.keep x hx h1 h2
  · rw [hg.net, z1, if_pos rfl, if_neg (fun e => hn.ne e.symm)]; omega
  · exact Classical.byContradiction fun c => hne (hg.old k hk fun i hi e => c ⟨i, hi, e⟩)
/-- a step's number does what the step does -/
theorem code_steps {cs : List Nat} (hb : ∀ i, i < cs.length → cs.getD i 0 < 1000) {x9 r34 : Int} {s t : List Int} (h : forN (most_More_B2 (cs.map dec) (min r34 x9)) (cs.map dec).length 0 s = some t) : forN (cheap_Of_B2 x9 (cs.map fun (k : Nat) => (k : Int)) r34) (cs.map fun (k : Nat) => (k : Int)).length 0 s = some t := by
  rw [List.length_map] at h ⊢
  refine forN_imp (fun j s s' _ hj hs => ?_) h
  have hj' : j < cs.length := by omega
  have g1 : (cs.map dec).getD j El.d = dec (cs.getD j 0) := by simp [List.getD_eq_getElem?_getD, hj']
  have g2 : (cs.map fun (k : Nat) => (k : Int)).getD j 0 = ((cs.getD j 0 : Nat) : Int) := by simp [List.getD_eq_getElem?_getD, hj']
  unfold most_More_B2 at hs
  unfold cheap_Of_B2
  rw [g1] at hs
  rw [g2, tmod_nat, tdiv_nat]
  unfold dec at hs
  dsimp only at hs
  have hb' := hb j hj'
  generalize cs.getD j 0 = c at *
  rcases Nat.mod_two_eq_zero_or_one c with q | q
  · rw [if_neg (show ¬ (decide (c % 2 = 1) = true) by rw [q]; decide)] at hs
    rw [q, if_pos (by decide), ck_some (inI_small (by omega) (by omega))]
    exact hs
  · rw [if_pos (show decide (c % 2 = 1) = true by rw [q]; decide)] at hs
    rw [q, if_neg (by decide), ck_some (inI_small (by omega) (by omega))]
    exact hs
/-- a flow with heights that do not fall from the source to the sink -/
structure CheapF (n : Net) (cost f : List Int) (v sum : Int) : Prop where
  flow : Flow n f
  val : netAt n.as f n.s = v
  cst : costF n cost f = sum
  pot : ∃ h, Pot n cost f h ∧ ht h n.s ≤ ht h n.t
theorem cheap_round {n : Net} {cost : List Int} (hc : CheapOk n cost) {x9 amount : Int} (h9 : 0 < x9) (hx : x9 ≤ 1000000000) {f : List Int} {sum : Int} (h : CheapF n cost f (amount - x9) sum) :
    (cheap_Of_B1 n cost (x9, f, sum) = some (.ret ([], 0, 5)) ∧ ∀ g, Flow n g → netAt n.as g n.s ≤ amount - x9) ∨ ∃ r g s', 1 ≤ r ∧ r ≤ x9 ∧ cheap_Of_B1 n cost (x9, f, sum) = some (.go (x9 - r, g, s')) ∧ CheapF n cost g (amount - (x9 - r)) s' := by
  have hf := h.flow
  have hn := hc.net
  have n12 := hn.g.n1; have s0 := hn.s0; have s1 := hn.s1; have t0 := hn.t0; have t1 := hn.t1
  dsimp only at n12
  obtain ⟨hh, hp, hle⟩ := h.pot
  obtain ⟨F, K, eF, hA⟩ := from_awayH (left_ok (f := f) hc) hp.arc s0 s1
  have l0 := hA.l0; have l1 := hA.l1
  dsimp only at l0 l1
  unfold cheap_Of_B1
  dsimp only
  rw [if_pos h9, left_eq hc hf.len, bind_some', eF, bind_some']
  dsimp only
  rw [ck_some (by omega)]
  by_cases hK : K.getD n.t.toNat false = true
  · right
    rw [if_neg (by rw [hK]; decide)]
    obtain ⟨cs, r, eb, hT, hcs⟩ := back_ok hc hf.win hA hK
    have hpos := hT.pos; have hbig := hT.big
    have hT' := hT.less (r' := min r x9) (by omega) (by omega)
    obtain ⟨g, eg, hg, hval, hold⟩ := augment2 hf hT'
    rw [eb, bind_some']
    dsimp only
    have m30 := hc.m30
    rw [code_steps (fun i hi => by have := (hcs i hi).1; omega) eg, bind_some', ck_some (by omega)]
    obtain ⟨h', hp', hF'⟩ := hp.next hc hA
    have hFt := hF' n.t t0 t1 hK
    have hFs := hF' n.s s0 s1 hA.ks
    rw [hA.zero] at hFs
    have hge := cost_ge hp.arc (hA.way n.t t0 t1 hK)
    unfold ht at hle
    have tight : ∀ k, k < n.as.length → g.getD k 0 ≠ f.getD k 0 → ht h' (n.as.getD k El.d).t = ht h' (n.as.getD k El.d).f + cost.getD k 0 := fun k hk hne => by
      obtain ⟨i, hi, ei⟩ := hold k hk hne
      rw [List.length_map] at hi
      have g1 : (cs.map dec).getD i El.d = dec (cs.getD i 0) := by simp [List.getD_eq_getElem?_getD, hi]
      rw [g1] at ei
      obtain ⟨c1, y, c2, c3⟩ := hcs i hi
      have ek : cs.getD i 0 / 2 = k := by unfold dec at ei; dsimp only at ei; omega
      have ct := c2.t
      have ce := c2.eq
      have ck' := c2.kn
      have hy : y = (codeA n cost f (cs.getD i 0)).t.toNat := by omega
      rw [hy] at ce ck'
      obtain ⟨w1, w2⟩ := codeA_tight (F := F) c1 c3 ce
      rw [ek] at w1 w2
      have hG := hn.arc hk
      -- both ends are known
      have kf : K.getD (codeA n cost f (cs.getD i 0)).f.toNat false = true := c2.kf
      have both : K.getD (n.as.getD k El.d).f.toNat false = true ∧ K.getD (n.as.getD k El.d).t.toNat false = true := by
        rcases w2 with ⟨a, b⟩ | ⟨a, b⟩
        · rw [a] at kf; rw [b] at ck'; exact ⟨kf, ck'⟩
        · rw [a] at kf; rw [b] at ck'; exact ⟨ck', kf⟩
      rw [hF' _ hG.t0 hG.t1 both.2, hF' _ hG.f0 hG.f1 both.1]
      exact w1
    have hcost := tight_cost (cost := cost) hf hg tight
    rw [hval, hFt, hFs] at hcost
    have b1 := cost_rg hc hf
    have b2 := cost_rg hc hg
    have hc0 := h.cst
    have e1 : (F.getD n.t.toNat 0 - 0) * (netAt n.as f n.s + min r x9 - netAt n.as f n.s) = min r x9 * F.getD n.t.toNat 0 := by
      rw [Int.sub_zero, show netAt n.as f n.s + min r x9 - netAt n.as f n.s = min r x9 by omega, Int.mul_comm]
    rw [e1] at hcost
    rw [ck_some (inI_small (by omega) (by omega)), ck_some (inI_small (by omega) (by omega)), ck_some (inI_small (by omega) (by omega))]
    refine ⟨min r x9, g, _, by omega, by omega, rfl, hg, ?_, by omega, h', hp'.tight tight, by rw [hFt, hFs]; omega⟩
    have := h.val
    omega
  · left
    rw [if_pos (by rw [Bool.not_eq_true] at hK; rw [hK]; rfl)]
    refine ⟨rfl, fun g hg => ?_⟩
    have hS : Cut n fun x => if K.getD x.toNat false = true then 1 else 0 := ⟨by rw [if_pos hA.ks], by rw [if_neg hK], fun x => by
      split
      · exact .inr rfl
      · exact .inl rfl⟩
    have hTi : Tight n f fun x => if K.getD x.toNat false = true then 1 else 0 := by
      have key : ∀ k, k < n.as.length → (K.getD (n.as.getD k El.d).f.toNat false = true → f.getD k 0 < (n.as.getD k El.d).c → K.getD (n.as.getD k El.d).t.toNat false = true) ∧ (K.getD (n.as.getD k El.d).t.toNat false = true → 0 < f.getD k 0 → K.getD (n.as.getD k El.d).f.toNat false = true) := fun k hk => by
        have s1 := hA.stab _ ((leftN_mem n cost f (j := n.as.length)).2 ⟨k, hk, .inl rfl⟩)
        have s2 := hA.stab _ ((leftN_mem n cost f (j := n.as.length)).2 ⟨k, hk, .inr rfl⟩)
        unfold Go.Proofs.Ytlelfifbmckhgaa.Stab at s1 s2
        unfold leftX at s1
        unfold leftY at s2
        constructor
        · intro a b
          rw [if_pos b] at s1
          exact (s1 a).1
        · intro a b
          rw [if_pos b] at s2
          exact (s2 a).1
      refine ⟨fun k hk e1 e2 => ?_, fun k hk e1 e2 => ?_⟩
      · have hr := hf.r k (by rw [hf.len]; exact hk)
        try dsimp only at e1 e2
        have a1 : K.getD (n.as.getD k El.d).f.toNat false = true := Classical.byContradiction fun z => by rw [if_neg z] at e1; omega
        have a2 : ¬ K.getD (n.as.getD k El.d).t.toNat false = true := fun z => by rw [if_pos z] at e2; omega
        exact Classical.byContradiction fun z => a2 ((key k hk).1 a1 (by omega))
      · have hr := hf.r k (by rw [hf.len]; exact hk)
        try dsimp only at e1 e2
        have a1 : K.getD (n.as.getD k El.d).t.toNat false = true := Classical.byContradiction fun z => by rw [if_neg z] at e2; omega
        have a2 : ¬ K.getD (n.as.getD k El.d).f.toNat false = true := fun z => by rw [if_pos z] at e1; omega
        exact Classical.byContradiction fun z => a2 ((key k hk).2 a1 (by omega))
    have e1 := hf.eq_cut hS hTi
    have e2 := hg.le_cut hS
    have := h.val
    omega
theorem of_cheap {n : Net} {cost : List Int} (hc : CheapOk n cost) {amount : Int} (h0 : 0 ≤ amount) (h1 : amount ≤ 1000000000) :
    (∃ f sum, cheap_Of_F n cost amount = some (f, sum, 0) ∧ CheapF n cost f amount sum) ∨ (cheap_Of_F n cost amount = some ([], 0, 5) ∧ ∀ g, Flow n g → netAt n.as g n.s < amount) := by
  have hn := hc.net
  have m30 := hc.m30
  have hck : cheap_Check_F n cost = some 0 := by
    rcases cheapCheck_cases n cost with ⟨_, e⟩ | ⟨z, _⟩
    · exact e
    · exact absurd hc z
  have hz := flow_zero hn
  have c0 : costF n cost (List.replicate n.as.length 0) = 0 := tot_zero fun k hk => by
    rw [getD_replicate']; split <;> rw [Int.zero_mul]
  have v0 : netAt n.as (List.replicate n.as.length 0) n.s = 0 := tot_zero fun k hk => by
    unfold term
    rw [getD_replicate', if_pos hk]
    split <;> split <;> rfl
  have start : CheapF n cost (List.replicate n.as.length 0) (amount - amount) 0 := ⟨hz, by rw [v0]; omega, c0, [], fun k hk => by
    have hr := hc.rg k
    have : ∀ x, ht [] x = 0 := fun x => by simp [ht]
    rw [this, this, getD_replicate', if_pos hk]
    exact ⟨fun _ => by omega, fun z => by omega⟩, by simp [ht]⟩
  obtain ⟨q, e, h⟩ := loopC_or (f := cheap_Of_B1 n cost) (fun (τ : Int × List Int × Int) => 0 ≤ τ.1 ∧ τ.1 ≤ 1000000000 ∧ CheapF n cost τ.2.1 (amount - τ.1) τ.2.2) (fun q => (∃ f sum, q = .go (0, f, sum) ∧ CheapF n cost f amount sum) ∨ (q = .ret ([], 0, 5) ∧ ∀ g, Flow n g → netAt n.as g n.s < amount)) (fun τ => (600001 - netAt n.as τ.2.1 n.s).toNat) (fun τ ⟨i0, i1, i2⟩ => by
    obtain ⟨x9, f, sum⟩ := τ
    dsimp only at i0 i1 i2
    by_cases c : 0 < x9
    · rcases cheap_round hc c (by omega) i2 with ⟨e, hmax⟩ | ⟨r, g, s', r1, r2, e, hg⟩
      · exact .inr (.inr ⟨_, e, .inr ⟨rfl, fun g hg => by have := hmax g hg; omega⟩⟩)
      · have a1 := hg.val; have a2 := i2.val
        have b1 := hg.flow.value_le n.s
        exact .inl ⟨_, e, ⟨by dsimp only; omega, by dsimp only; omega, hg⟩, by dsimp only; omega⟩
    · have e0 : x9 = 0 := by omega
      subst e0
      refine .inr (.inl ⟨_, ?_, .inl ⟨f, sum, rfl, by rw [Int.sub_zero] at i2; exact i2⟩⟩)
      unfold cheap_Of_B1
      dsimp only
      rw [if_neg c]) (n := 1000000) (s := (amount, List.replicate n.as.length 0, 0)) ⟨h0, h1, start⟩ (by dsimp only; rw [v0]; omega)
  unfold cheap_Of_F
  rw [hck, bind_some', if_neg (by decide), if_neg (by omega), ck_some (by omega), Int.toNat_natCast, e, bind_some']
  rcases h with ⟨f, sum, rfl, h⟩ | ⟨rfl, h⟩
  · exact .inl ⟨f, sum, rfl, h⟩
  · exact .inr ⟨rfl, h⟩
theorem of_cheap_bad {n : Net} {cost : List Int} (hc : ¬ CheapOk n cost) (amount : Int) : ∃ e, e ≠ 0 ∧ cheap_Check_F n cost = some e ∧ cheap_Of_F n cost amount = some ([], 0, e) := by
  rcases cheapCheck_cases n cost with ⟨h, _⟩ | ⟨_, e, he, h⟩
  · exact absurd h hc
  · refine ⟨e, he, h, ?_⟩
    unfold cheap_Of_F
    rw [h, bind_some', if_pos he]
end Go.Proofs.Ytlelfifbmckhgaa
