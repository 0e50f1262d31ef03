/- LeastNodes: the law's function answers true. -/
import Derived.Test.YtdpkdicciclobaaPstoer2
import Derived.Test.YtdpkdicciclobaaPparts
import Derived.Test.YtdpkdicciclobaaPset
import Derived.Test.YtdpkdicciclobaaKLeastNodes
namespace Go.Proofs.Ytdpkdicciclobaa
open Go Go.Proofs.Ytdpkdicciclobaa.Sx
set_option linter.unusedVariables false
set_option linter.unusedSimpArgs false
def LeastNodes_testB : Bool := match least_Of_F ⟨2, []⟩ with
  | none => false
  | some (_, c, e) => decide (e = 0) && decide (c = 0) && match weirkeep_three_F with
    | none => false
    | some w => match least_Of_F w with
      | none => false
      | some (s, c, e) => decide (e = 0) && decide (s = 4) && decide (c = 3)
theorem LeastNodes_test : ∃ s0 c0 e0 w s c e, least_Of_F ⟨2, []⟩ = some (s0, c0, e0) ∧ e0 = 0 ∧ c0 = 0 ∧ weirkeep_three_F = some w ∧ least_Of_F w = some (s, c, e) ∧ e = 0 ∧ s = 4 ∧ c = 3 := by
  have h : LeastNodes_testB = true := by kernel_rfl
  unfold LeastNodes_testB at h
  split at h
  · cases h
  · rename_i s0 c0 e0 h0
    simp only [Bool.and_eq_true, decide_eq_true_eq] at h
    obtain ⟨⟨a, b⟩, h⟩ := h
    split at h
    · cases h
    · rename_i w hw
      split at h
      · cases h
      · rename_i s c e he
        simp only [Bool.and_eq_true, decide_eq_true_eq, and_assoc] at h
        exact ⟨s0, c0, e0, w, s, c, e, h0, a, b, hw, he, h⟩
theorem max_ok {l : List Int} (h : 0 < l.length) (hs : l.length ≤ 100) : ∃ m, slices_Max_int_F l = some m ∧ (∀ i, i < l.length → l.getD i 0 ≤ m) ∧ ∃ i, i < l.length ∧ l.getD i 0 = m := by
  unfold slices_Max_int_F
  rw [if_neg (by omega), bind_some', ck_some h]
  obtain ⟨q, e, m, hq, h1, h2⟩ := loopC_or (f := slices_Max_int_B1 l) (fun (σ : Int × Nat) => 1 ≤ σ.2 ∧ σ.2 ≤ l.length ∧ (∀ i, i < σ.2 → l.getD i 0 ≤ σ.1) ∧ ∃ i, i < l.length ∧ l.getD i 0 = σ.1) (fun q => ∃ m, q = .go (m, l.length) ∧ (∀ i, i < l.length → l.getD i 0 ≤ m) ∧ ∃ i, i < l.length ∧ l.getD i 0 = m) (fun σ => l.length - σ.2) (fun σ ⟨i1, i2, i3, i4⟩ => by
    obtain ⟨x, k⟩ := σ
    dsimp only at i1 i2 i3 i4 ⊢
    unfold slices_Max_int_B1
    dsimp only
    by_cases c : ((k : Nat) : Int) < ((l.length : Nat) : Int)
    · rw [if_pos c, ck_some (by omega), ck_some (by unfold InI; omega)]
      refine .inl ⟨_, rfl, ⟨by dsimp only; omega, by dsimp only; omega, fun i hi => ?_, ?_⟩, by dsimp only; omega⟩
      · dsimp only at hi ⊢
        by_cases q : i = k
        · subst q; omega
        · have := i3 i (by omega); omega
      · dsimp only
        by_cases q : x ≤ l.getD k 0
        · exact ⟨k, by omega, by omega⟩
        · obtain ⟨i, hi, ei⟩ := i4
          exact ⟨i, hi, by omega⟩
    · rw [if_neg c]
      have : k = l.length := by omega
      subst this
      exact .inr (.inl ⟨_, rfl, x, rfl, i3, i4⟩)) (n := 1000000) (s := (l.getD 0 0, 1)) ⟨by dsimp only; omega, by dsimp only; omega, fun i hi => by dsimp only at hi ⊢; rw [show i = 0 by omega]; exact Int.le_refl _, 0, h, rfl⟩ (by dsimp only; omega)
  subst hq
  rw [e, bind_some']
  exact ⟨m, rfl, h1, h2⟩
theorem maskN_table : ∀ n : Fin 13, IntKind.u16.wrap ((IntKind.u16.wrap (1 * 2 ^ min n.val 16)) - 1) = ((2 ^ n.val - 1 : Nat) : Int) ∧ (BitVec.ofInt 16 ((2 ^ n.val - 1 : Nat) : Int)).toNat = 2 ^ n.val - 1 ∧ IntKind.i64.wrap (1 * 2 ^ min n.val 64) - 1 = ((2 ^ n.val - 1 : Nat) : Int) := by decide +kernel
theorem maskN_ok {n : Nat} (hn : n ≤ 12) (set : Int) : ∃ m : Nat, bitsOf .and .u16 set (IntKind.u16.wrap ((IntKind.u16.wrap (1 * 2 ^ min n 16)) - 1)) = (m : Int) ∧ IntKind.i64.wrap (m : Int) = (m : Int) ∧ IntKind.i64.wrap (1 * 2 ^ min n 64) - 1 = ((2 ^ n - 1 : Nat) : Int) ∧ 2 ^ n ≤ 4096 ∧
    (m ≠ 0 → ∃ u, u < n ∧ bit set (u : Int) = 1) ∧ (m ≠ 2 ^ n - 1 → ∃ u, u < n ∧ bit set (u : Int) ≠ 1) := by
  obtain ⟨t1, t2, t3⟩ := maskN_table ⟨n, by omega⟩
  dsimp only at t1 t2 t3
  have hp : 2 ^ n ≤ 4096 := Nat.pow_le_pow_right (n := 2) (by decide) hn
  have e : bitsOf .and .u16 set ((2 ^ n - 1 : Nat) : Int) = IntKind.u16.wrap (((BitVec.ofInt 16 set &&& BitVec.ofInt 16 ((2 ^ n - 1 : Nat) : Int)).toNat : Nat) : Int) := rfl
  rw [BitVec.toNat_and, t2, Nat.and_two_pow_sub_one_eq_mod] at e
  have hlt := Nat.mod_lt (BitVec.ofInt 16 set).toNat (show 2 ^ n > 0 from Nat.pow_pos (by decide))
  have bits : ∀ u : Nat, u < 16 → (bit set (u : Int) = 1 ↔ (BitVec.ofInt 16 set).toNat.testBit u = true) := fun u hu => by
    rw [bit_lsb set hu]; rfl
  refine ⟨(BitVec.ofInt 16 set).toNat % 2 ^ n, ?_, ?_, t3, hp, fun h => ?_, fun h => ?_⟩
  · rw [t1, e]
    show ((((BitVec.ofInt 16 set).toNat % 2 ^ n : Nat) : Int)) % 65536 = _
    omega
  · rw [IntKind.wrap_i64]; omega
  · obtain ⟨u, hu⟩ := Nat.exists_testBit_of_ne_zero h
    rw [Nat.testBit_mod_two_pow] at hu
    simp only [Bool.and_eq_true, decide_eq_true_eq] at hu
    exact ⟨u, hu.1, (bits u (by omega)).2 hu.2⟩
  · refine Classical.byContradiction fun hno => h ?_
    refine Nat.eq_of_testBit_eq fun i => ?_
    rw [Nat.testBit_mod_two_pow, Nat.testBit_two_pow_sub_one]
    by_cases c : i < n
    · have : bit set (i : Int) = 1 := Classical.byContradiction fun z => hno ⟨i, c, z⟩
      rw [(bits i (by omega)).1 this]; simp
    · simp [c]
theorem LeastNodes_true (g : Graph) (set : Int) : weirkeep_LeastNodes_F g set = some true := by
  obtain ⟨s0, c0, e0, w, s, c, e, h0, rfl, rfl, h1, h2, rfl, rfl, rfl⟩ := LeastNodes_test
  unfold weirkeep_LeastNodes_F
  rw [h0, bind_some']
  dsimp only
  rw [if_neg (by decide), if_neg (by decide), h1, bind_some', h2, bind_some']
  dsimp only
  rw [if_neg (by decide), if_neg (by decide), if_neg (by decide)]
  by_cases h : OkP g ∧ 2 ≤ g.n
  · obtain ⟨hg, hn⟩ := h
    have n12 := hg.ok.n1
    have hlen := hg.len
    obtain ⟨s, c, e, c0, ⟨X, hX, eX⟩, cB⟩ := stoer_ok hg hn
    rw [e, bind_some']
    dsimp only
    rw [if_neg (by decide)]
    have cap : ∀ a, a ∈ g.as → 0 ≤ a.c := fun a ha => (hg.ok.arc a ha).c0
    obtain ⟨⟨x, l⟩, el, i1, i2, i3, i4⟩ := forN_inv (f := weirkeep_LeastNodes_B1 g set) (fun k σ => σ.1 = lsA (across (bit set)) (g.as.take k) ∧ (0 ≤ σ.1 ∧ σ.1 ≤ 10000 * (k : Int)) ∧ σ.2 = (g.as.take k).filter (fun a => decide (0 < a.c)) ∧ σ.2.length ≤ k) (n := g.as.length) (k := 0) (s := (0, [])) ⟨rfl, by simp, rfl, by simp⟩ fun k σ _ hk ⟨i1, i2, i3, i4⟩ => by
      obtain ⟨x, l⟩ := σ
      dsimp only at i1 i2 i3 i4 ⊢
      have hk' : k < g.as.length := by omega
      have G := hg.ok.arc _ (mem_getD (d := (El.d : Arc)) hk')
      have a0 := G.c0; have a1 := G.c1
      unfold weirkeep_LeastNodes_B1
      dsimp only
      rw [ck_some G.f0, ck_some G.t0, bit_fold, bit_fold]
      have step : (if bit set (g.as.getD k El.d).f ≠ bit set (g.as.getD k El.d).t then ck (InI (x + (g.as.getD k El.d).c)) (some (x + (g.as.getD k El.d).c)) else some x) = some (x + across (bit set) (g.as.getD k El.d)) := by
        unfold across
        rw [ck_some (by unfold InI; omega)]
        by_cases q : bit set (g.as.getD k El.d).f = bit set (g.as.getD k El.d).t
        · rw [if_neg (fun z => z q), if_pos q, Int.add_zero]
        · rw [if_pos q, if_neg q]
      have ab : 0 ≤ across (bit set) (g.as.getD k El.d) ∧ across (bit set) (g.as.getD k El.d) ≤ 10000 := by unfold across; split <;> omega
      have e1 : lsA (across (bit set)) (g.as.take (k + 1)) = x + across (bit set) (g.as.getD k El.d) := by
        rw [take_succ_getD hk', lsA_append, ← i1]
        show x + (across (bit set) (g.as.getD k El.d) + 0) = _
        omega
      rw [step, bind_some']
      have e2 : (g.as.take (k + 1)).filter (fun a => decide (0 < a.c)) = l ++ (if 0 < (g.as.getD k El.d).c then [g.as.getD k El.d] else []) := by
        rw [take_succ_getD hk', List.filter_append, ← i3, List.filter_cons, List.filter_nil]
        by_cases q : 0 < (g.as.getD k El.d).c
        · rw [if_pos q, if_pos (decide_eq_true q)]
        · rw [if_neg q, if_neg (by simpa using q)]
      by_cases q : 0 < (g.as.getD k El.d).c
      · rw [if_pos q, ck_some (by omega)]
        exact ⟨_, rfl, e1.symm, ⟨by dsimp only; omega, by dsimp only; omega⟩, by dsimp only; rw [e2, if_pos q], by simp; omega⟩
      · rw [if_neg q]
        exact ⟨_, rfl, e1.symm, ⟨by dsimp only; omega, by dsimp only; omega⟩, by dsimp only; rw [e2, if_neg q, List.append_nil], by dsimp only; omega⟩
    rw [el, bind_some']
    dsimp only at i1 i2 i3 i4 ⊢
    rw [Nat.zero_add, List.take_of_length_le (Nat.le_refl _)] at i1 i3
    have hh : Ok ⟨g.n, l⟩ := ⟨hg.ok.n0, hg.ok.n1, by show l.length ≤ 60; omega, fun a ha => by
      rw [show (⟨g.n, l⟩ : Graph).as = l from rfl, i3] at ha
      have G := hg.ok.arc a (List.mem_filter.1 ha).1
      have := G.c0
      exact ⟨G.f0, G.f1, G.t0, G.t1, by omega, G.c1⟩⟩
    obtain ⟨p, ep, hP⟩ := parts_ok hh
    have pl : p.length = g.n.toNat := hP.pi.len
    have lo : ∀ u : Nat, u < g.n.toNat → 0 ≤ p.getD u 0 ∧ p.getD u 0 ≤ u := fun u hu => by
      have := hP.pi.lo (u : Int) (by omega) (by show (u : Int) < g.n; omega)
      unfold atI at this
      rwa [Int.toNat_natCast] at this
    obtain ⟨m, em, m1, i0, m2, m3⟩ := max_ok (l := p) (by omega) (by omega)
    rw [ep, bind_some']
    dsimp only
    rw [ck_some (show 0 ≤ g.n by omega), if_pos rfl, if_pos (by omega), em, bind_some']
    -- parted just if nothing leads over
    have key : (c = 0) ↔ 0 < m := by
      constructor
      · intro hc
        subst hc
        have each : ∀ a, a ∈ g.as → 0 < a.c → X a.f.toNat = X a.t.toNat := by
          have gen : ∀ l : List Arc, (∀ a, a ∈ l → 0 ≤ a.c) → lsA (across (indS X)) l = 0 → ∀ a, a ∈ l → 0 < a.c → X a.f.toNat = X a.t.toNat := fun l => by
            induction l with
            | nil => intro _ _ a ha; cases ha
            | cons b l ih =>
              intro hc h0 a ha hpos
              have nn : 0 ≤ lsA (across (indS X)) l := by
                have : lsA (fun _ => 0) l ≤ lsA (across (indS X)) l := lsA_le fun a ha => by have := hc a (by simp [ha]); unfold across; split <;> omega
                have z : ∀ l : List Arc, lsA (fun _ => 0) l = 0 := fun l => by
                  induction l with
                  | nil => rfl
                  | cons a l ih => rw [lsA, ih]; rfl
                rw [z] at this; exact this
              have bc := hc b (by simp)
              have nb : 0 ≤ across (indS X) b := by unfold across; split <;> omega
              rw [lsA] at h0
              rcases List.mem_cons.1 ha with rfl | ha
              · have z : across (indS X) a = 0 := by omega
                unfold across indS at z
                revert z
                cases X a.f.toNat <;> cases X a.t.toNat <;> simp <;> omega
              · exact ih (fun a ha => hc a (by simp [ha])) (by omega) a ha hpos
          exact gen g.as cap eX
        obtain ⟨⟨u, hu, xu⟩, w, hw, xw⟩ := hX
        have jn := hP.pi.joined (fun z => if X z.toNat = true then 1 else 0) fun a ha => by
          rw [show (⟨g.n, l⟩ : Graph).as = l from rfl, i3] at ha
          obtain ⟨a1, a2⟩ := List.mem_filter.1 ha
          rw [each a a1 (of_decide_eq_true a2)]
        have jz : ∀ z : Nat, z < g.n.toNat → X (p.getD z 0).toNat = X z := fun z hz => by
          have h1 := jn (z : Int) (by omega) (by show (z : Int) < g.n; omega)
          have h2 : (if X (p.getD z 0).toNat = true then (1 : Int) else 0) = if X z = true then 1 else 0 := h1
          revert h2
          cases X (p.getD z 0).toNat <;> cases X z <;> simp
        have ju := (jz u hu).trans xu
        have jw := (jz w hw).trans xw
        have ru := lo u hu
        have rw' := lo w hw
        have mu := m1 u (by omega)
        have mw := m1 w (by omega)
        refine Classical.byContradiction fun z => ?_
        have eu : p.getD u 0 = p.getD w 0 := by omega
        rw [eu, jw] at ju
        cases ju
      · intro hm
        have ri := lo i0 (by omega)
        have e0 := lo 0 (by omega)
        have pz : Proper g.n.toNat (fun u => decide (p.getD u 0 = m)) := ⟨⟨i0, by omega, decide_eq_true m3⟩, 0, by omega, decide_eq_false (by omega)⟩
        have le := cB _ pz
        have z : overG g (fun u => decide (p.getD u 0 = m)) = 0 := by
          unfold overG
          have : lsA (across (indS fun u => decide (p.getD u 0 = m))) g.as = lsA (fun _ => 0) g.as := lsA_congr fun a ha => by
            have c0 := cap a ha
            unfold across
            by_cases q : 0 < a.c
            · have := hP.arc a (by show a ∈ l; rw [i3]; exact List.mem_filter.2 ⟨ha, decide_eq_true q⟩)
              unfold atI at this
              exact if_pos (by unfold indS; simp only [this])
            · have z : a.c = 0 := by omega
              split
              · rfl
              · exact z
          rw [this]
          have z : ∀ l : List Arc, lsA (fun _ => 0) l = 0 := fun l => by
            induction l with
            | nil => rfl
            | cons a l ih => rw [lsA, ih]; rfl
          exact z _
        omega
    obtain ⟨M, eM, wM, t3, hp, b1, b2⟩ := maskN_ok (n := g.n.toNat) (by omega) set
    rw [if_pos (by rw [decide_eq_decide]; exact key), eM]
    by_cases q1 : (M : Int) = 0
    · rw [if_pos q1]
    · rw [if_neg q1, t3, ck_some (by clear b1 b2; unfold InI; omega), wM]
      by_cases q2 : (M : Int) = ((2 ^ g.n.toNat - 1 : Nat) : Int)
      · rw [if_pos q2]
      · rw [if_neg q2]
        have n1 : M ≠ 0 := fun z => q1 (by rw [z]; rfl)
        have n2 : M ≠ 2 ^ g.n.toNat - 1 := fun z => q2 (by rw [z])
        obtain ⟨u, hu, bu⟩ := b1 n1
        obtain ⟨v, hv, bv⟩ := b2 n2
        clear b1 b2
        have le := cB (fun u => decide (bit set (u : Int) = 1)) ⟨⟨u, hu, decide_eq_true bu⟩, v, hv, decide_eq_false bv⟩
        have eo : overG g (fun u => decide (bit set (u : Int) = 1)) = x := by
          rw [i1]
          unfold overG
          refine lsA_congr fun a ha => ?_
          have G := hg.ok.arc a ha
          have eq : ∀ x : Int, 0 ≤ x → indS (fun x => decide (bit set (x : Int) = 1)) x = bit set x := fun x hx => indS_eq (bit01 set) hx
          unfold across
          rw [eq _ G.f0, eq _ G.t0]
        exact congrArg some (decide_eq_true (by omega))
  · obtain ⟨e, he, e1⟩ := stoer_bad h
    rw [e1, bind_some']
    dsimp only
    rw [if_pos he]
    rfl
end Go.Proofs.Ytdpkdicciclobaa
