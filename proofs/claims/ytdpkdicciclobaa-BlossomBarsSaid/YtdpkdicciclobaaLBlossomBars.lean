/- BlossomBars: the law's function answers true. -/
import Derived.Test.YtdpkdicciclobaaPodd
import Derived.Test.YtdpkdicciclobaaKBlossomBars
namespace Go.Proofs.Ytdpkdicciclobaa
open Go Go.Proofs.Ytdpkdicciclobaa.Sx
set_option linter.unusedVariables false
set_option linter.unusedSimpArgs false
theorem blossomsR_ok : weirkeep_blossoms_F = some true := by kernel_rfl
/-! ### pairs told twice -/
theorem inS_lt_table : ∀ S : Fin 512, ∀ n : Fin 10, ∀ x : Fin 9, S.val < 2 ^ n.val → inS S.val x.val = true → x.val < n.val := by decide +kernel
theorem inS_lt {S n x : Nat} (hn : n ≤ 9) (hS : S < 2 ^ n) (hx : x < 9) (h : inS S x = true) : x < n := by
  have := Nat.pow_le_pow_right (n := 2) (by decide) hn
  exact inS_lt_table ⟨S, by omega⟩ ⟨n, by omega⟩ ⟨x, hx⟩ hS h
theorem pow9 {n : Nat} (hn : n ≤ 9) : 2 ^ n ≤ 512 := Nat.pow_le_pow_right (n := 2) (by decide) hn
theorem mat_mt {g : Graph} {n : Nat} (hn : n ≤ 9) {S k : Nat} (h : MatS (EB g) S k) : S < 2 ^ n → ∃ μ, Mt n (EB g) (fun x => x < n) μ ∧ (∀ x, x < 9 → inS S x = false → μ x = x) ∧ ms n (fun x => x < n) μ = n - 2 * k := by
  have h9 := pow9 hn
  induction h with
  | nil S =>
    intro hS
    refine ⟨id, ⟨fun x hx => hx, fun x hx => rfl, fun x hx hne => absurd rfl hne⟩, fun x _ _ => rfl, ?_⟩
    have : ms n (fun x => x < n) id = n := by
      have e : ∀ m, m ≤ n → num (fun x => x < n ∧ id x = x) m = m := fun m => by
        induction m with
        | zero => intro _; rfl
        | succ m ih => intro hm; rw [num_t ⟨by omega, rfl⟩, ih (by omega)]; omega
      exact e n (Nat.le_refl _)
    omega
  | @step S u v k hu hv h1 h2 hne he hm ih =>
    intro hS
    have d1 := dropS_le S u
    have d2 := dropS_le (dropS S u) v
    obtain ⟨μ, m1, m2, m3⟩ := ih (by omega)
    have iu : inS (dropS (dropS S u) v) u = false := by rw [inDrop (by omega) hv hu, inDrop (by omega) hu hu]; simp
    have iv : inS (dropS (dropS S u) v) v = false := by rw [inDrop (by omega) hv hv]; simp
    obtain ⟨μ', a, b, c⟩ := m1.join2 (fun _ _ => EB.symm) (fun _ z => z) (inS_lt hn hS hu h1) (inS_lt hn hS hv h2) hne (m2 u hu iu) (m2 v hv iv) he
    refine ⟨μ', a, fun x hx hin => ?_, by omega⟩
    have xu : x ≠ u := fun z => by rw [z, h1] at hin; cases hin
    have xv : x ≠ v := fun z => by rw [z, h2] at hin; cases hin
    rw [c x xu xv]
    exact m2 x hx (by rw [inDrop (by omega) hv hx, inDrop (by omega) hu hx, hin]; simp)
theorem mt_mat {g : Graph} {n : Nat} (hn : n ≤ 9) : ∀ (S : Nat), S < 2 ^ n → ∀ μ, Mt n (EB g) (fun x => x < n ∧ inS S x = true) μ → ∃ k : Nat, MatS (EB g) S k ∧ num (fun x => x < n ∧ inS S x = true) n - ms n (fun x => x < n ∧ inS S x = true) μ = 2 * k := by
  have h9 := pow9 hn
  intro S
  induction S using Nat.strongRecOn with
  | ind S ih =>
    intro hS μ hμ
    by_cases c : ∃ u, (u < n ∧ inS S u = true) ∧ μ u ≠ u
    · obtain ⟨u, hu, hne⟩ := c
      have hv := hμ.in' u hu
      have hu9 : u < 9 := by omega
      have hv9 : μ u < 9 := by omega
      have l1 := dropS_lt hu.2
      have l2 := dropS_le (dropS S u) (μ u)
      have ind : ∀ x, x < 9 → (inS (dropS (dropS S u) (μ u)) x = true ↔ inS S x = true ∧ x ≠ u ∧ x ≠ μ u) := fun x hx => by
        rw [inDrop (by omega) hv9 hx, inDrop (by omega) hu9 hx]
        simp [and_assoc]
      have hin : ∀ x, (x < n ∧ inS (dropS (dropS S u) (μ u)) x = true) → (μ x < n ∧ inS (dropS (dropS S u) (μ u)) (μ x) = true) := fun x ⟨a, b⟩ => by
        obtain ⟨b1, b2, b3⟩ := (ind x (by omega)).1 b
        obtain ⟨c1, c2⟩ := hμ.in' x ⟨a, b1⟩
        refine ⟨c1, (ind _ (by omega)).2 ⟨c2, fun z => b3 ?_, fun z => b2 ?_⟩⟩
        · rw [← z]; exact (hμ.inv x ⟨a, b1⟩).symm
        · have e1 := hμ.inv x ⟨a, b1⟩
          have e2 := hμ.inv u hu
          rw [z] at e1
          exact e1.symm.trans e2
      obtain ⟨k, hk, ek⟩ := ih (dropS (dropS S u) (μ u)) (by omega) (by omega) μ ⟨hin, fun x ⟨a, b⟩ => hμ.inv x ⟨a, ((ind x (by omega)).1 b).1⟩, fun x ⟨a, b⟩ => hμ.edge x ⟨a, ((ind x (by omega)).1 b).1⟩⟩
      refine ⟨k + 1, .step hu9 hv9 hu.2 hv.2 (fun z => hne z.symm) (hμ.edge u hu hne) hk, ?_⟩
      have a1 := num_less (A := fun x => x < n ∧ inS S x = true) hu.1 hu
      have a2 := num_less (A := fun x => (x < n ∧ inS S x = true) ∧ x ≠ u) (k := μ u) hv.1 ⟨hv, hne⟩
      have a3 : num (fun x => x < n ∧ inS (dropS (dropS S u) (μ u)) x = true) n = num (fun x => ((x < n ∧ inS S x = true) ∧ x ≠ u) ∧ x ≠ μ u) n := num_congr fun x hx => by
        have := ind x (by omega)
        constructor
        · rintro ⟨p, q⟩; obtain ⟨q1, q2, q3⟩ := this.1 q; exact ⟨⟨⟨p, q1⟩, q2⟩, q3⟩
        · rintro ⟨⟨⟨p, q1⟩, q2⟩, q3⟩; exact ⟨p, this.2 ⟨q1, q2, q3⟩⟩
      have a4 : ms n (fun x => x < n ∧ inS (dropS (dropS S u) (μ u)) x = true) μ = ms n (fun x => x < n ∧ inS S x = true) μ := num_congr fun x hx => by
        have := ind x (by omega)
        constructor
        · rintro ⟨⟨p, q⟩, r⟩; exact ⟨⟨p, (this.1 q).1⟩, r⟩
        · rintro ⟨⟨p, q⟩, r⟩
          refine ⟨⟨p, this.2 ⟨q, fun z => hne (by rw [← z, r]), fun z => hne ?_⟩⟩, r⟩
          rw [z, hμ.inv u hu] at r
          exact r.symm
      omega
    · refine ⟨0, .nil S, ?_⟩
      have : ms n (fun x => x < n ∧ inS S x = true) μ = num (fun x => x < n ∧ inS S x = true) n := num_congr fun x _ => ⟨fun z => z.1, fun z => ⟨z, Classical.byContradiction fun w => c ⟨x, z, w⟩⟩⟩
      omega
theorem num_all (n : Nat) : num (fun x => x < n) n = n := by
  have e : ∀ m, m ≤ n → num (fun x => x < n) m = m := fun m => by
    induction m with
    | zero => intro _; rfl
    | succ m ih => intro hm; rw [num_t (by omega), ih (by omega)]; omega
  exact e n (Nat.le_refl _)
/-- Tutte, Berge, told of the greatest number of pairs -/
theorem bars {g : Graph} {n : Nat} (hn : n ≤ 9) {v : Int} (hM : MostS g (2 ^ n - 1) v) :
    (∀ U : Nat → Prop, (∀ x, U x → x < n) → oddP n (EB g) (fun x => x < n ∧ ¬ U x) ≤ n - 2 * v + num U n) ∧ ∃ U : Nat → Prop, (∀ x, U x → x < n) ∧ n - 2 * v + num U n = oddP n (EB g) (fun x => x < n ∧ ¬ U x) := by
  have hp : 0 < 2 ^ n := Nat.pow_pos (by decide)
  have h0 := hM.h0
  obtain ⟨μ, m1, _, m3⟩ := mat_mt hn hM.has (by omega)
  have lo : ∀ U : Nat → Prop, (∀ x, U x → x < n) → oddP n (EB g) (fun x => x < n ∧ ¬ U x) ≤ n - 2 * v + num U n := fun U hU => by
    have := berge_le (E := EB g) (T := fun x => x < n) (fun _ z => z) m1 hU
    omega
  refine ⟨lo, ?_⟩
  obtain ⟨μ', U, b1, b2, b3⟩ := berge (E := EB g) (fun _ _ => EB.symm) n (T := fun x => x < n) (fun _ z => z) (by rw [num_all]; omega)
  refine ⟨U, b2, ?_⟩
  have h1 := lo U b2
  have eT : (fun x => x < n ∧ inS (2 ^ n - 1) x = true) = fun x => x < n := funext fun x => propext ⟨fun z => z.1, fun z => ⟨z, by rw [full_in (by omega) (by omega)]; exact decide_eq_true z⟩⟩
  obtain ⟨k, hk, ek⟩ := mt_mat (g := g) hn (2 ^ n - 1) (by omega) μ' (by rw [eT]; exact b1)
  rw [eT, num_all] at ek
  have := hM.most k hk
  omega
/-! ### sets as numbers -/
theorem addS_table : ∀ n : Fin 9, ∀ S : Fin 512, S.val < 2 ^ n.val → ∀ x : Fin 9, inS (S.val + 2 ^ n.val) x.val = (decide (x.val = n.val) || inS S.val x.val) := by decide +kernel
theorem number_of (U : Nat → Prop) : ∀ n : Nat, n ≤ 9 → ∃ S, S < 2 ^ n ∧ ∀ x, x < n → (inS S x = true ↔ U x)
  | 0, _ => ⟨0, by decide, fun x h => absurd h (by omega)⟩
  | n + 1, hn => by
    obtain ⟨S, hS, h⟩ := number_of U n (by omega)
    have h9 := pow9 (n := n) (by omega)
    have hp : (2 : Nat) ^ (n + 1) = 2 * 2 ^ n := by rw [Nat.pow_succ]; omega
    by_cases c : U n
    · refine ⟨S + 2 ^ n, by omega, fun x hx => ?_⟩
      have := addS_table ⟨n, by omega⟩ ⟨S, by omega⟩ hS ⟨x, by omega⟩
      dsimp only at this
      rw [this]
      by_cases q : x = n
      · subst q; simp [c]
      · simp [q]; exact h x (by omega)
    · refine ⟨S, by omega, fun x hx => ?_⟩
      by_cases q : x = n
      · subst q
        constructor
        · intro z
          have := inS_lt (n := x) (by omega) hS (by omega) z
          omega
        · intro z; exact absurd z c
      · exact h x (by omega)
def onesT (S n : Nat) : Int := tot (fun x => if inS S x = true then 1 else 0) n
theorem onesB_table : ∀ S : Fin 512, blossom_ones_F ((S.val : Nat) : Int) = some (onesT S.val 9) := by decide +kernel
theorem onesR_table : ∀ S : Fin 512, weirref_Ones_F ((S.val : Nat) : Int) = some (onesT S.val 9) := by decide +kernel
theorem onesT_table : ∀ S : Fin 512, ∀ n : Fin 10, S.val < 2 ^ n.val → onesT S.val n.val = onesT S.val 9 := by decide +kernel
theorem onesT_num {S n : Nat} : num (fun x => x < n ∧ inS S x = true) n = onesT S n := by
  unfold num onesT
  refine tot_congr fun x hx => ?_
  by_cases c : inS S x = true
  · rw [if_pos c, if_pos ⟨hx, c⟩]
  · rw [if_neg c, if_neg (fun z => c z.2)]
theorem outS_eq {n S : Nat} : outS n S = fun x => x < n ∧ ¬ (x < n ∧ inS S x = true) := funext fun x => propext ⟨fun z => ⟨z.1, fun w => by rw [z.2] at w; cases w.2⟩, fun z => ⟨z.1, by cases c : inS S x with
  | false => rfl
  | true => exact absurd ⟨z.1, c⟩ z.2⟩⟩
theorem mask_table : ∀ n : Fin 10, IntKind.u16.wrap ((IntKind.u16.wrap (1 * 2 ^ min n.val 16)) - 1) = ((2 ^ n.val - 1 : Nat) : Int) ∧ (BitVec.ofInt 16 ((2 ^ n.val - 1 : Nat) : Int)).toNat = 2 ^ n.val - 1 := by decide +kernel
theorem wrap_table : ∀ S : Fin 512, IntKind.i64.wrap ((S.val : Nat) : Int) = ((S.val : Nat) : Int) ∧ IntKind.u16.wrap ((S.val : Nat) : Int) = ((S.val : Nat) : Int) := by decide +kernel
theorem mask_ok {n : Nat} (hn : n ≤ 9) (set : Int) : ∃ S : Nat, S < 2 ^ n ∧ IntKind.i64.wrap (bitsOf .and .u16 set (IntKind.u16.wrap ((IntKind.u16.wrap (1 * 2 ^ min n 16)) - 1))) = (S : Int) := by
  have h9 := pow9 hn
  have hp : 0 < 2 ^ n := Nat.pow_pos (by decide)
  obtain ⟨t1, t2⟩ := mask_table ⟨n, by omega⟩
  dsimp only at t1 t2
  rw [t1]
  have e : bitsOf .and .u16 set ((2 ^ n - 1 : Nat) : Int) = IntKind.u16.wrap (((BitVec.ofInt 16 set &&& BitVec.ofInt 16 ((2 ^ n - 1 : Nat) : Int)).toNat : Nat) : Int) := rfl
  rw [BitVec.toNat_and, t2] at e
  have hle := Nat.and_le_right (n := (BitVec.ofInt 16 set).toNat) (m := 2 ^ n - 1)
  obtain ⟨w1, w2⟩ := wrap_table ⟨(BitVec.ofInt 16 set).toNat &&& (2 ^ n - 1), by omega⟩
  dsimp only at w1 w2
  exact ⟨(BitVec.ofInt 16 set).toNat &&& (2 ^ n - 1), by omega, by rw [e, w2, w1]⟩
theorem MostS.uniq {g : Graph} {S : Nat} {v w : Int} (h : MostS g S v) (h' : MostS g S w) : v = w := by
  have := h.most _ h'.has
  have := h'.most _ h.has
  have := h.h0
  have := h'.h0
  omega
theorem BlossomBars_true (g : Graph) (set : Int) : weirkeep_BlossomBars_F g set = some true := by
  unfold weirkeep_BlossomBars_F
  rw [blossomsR_ok, bind_some', if_neg (by decide)]
  by_cases h : Ok g ∧ g.n ≤ 9
  · obtain ⟨hg, hn⟩ := h
    have n0 := hg.n0
    obtain ⟨l, el, hM⟩ := most_pass hg hn
    have hn9 : g.n.toNat ≤ 9 := by omega
    have h9 := pow9 hn9
    have hp : 0 < 2 ^ g.n.toNat := Nat.pow_pos (by decide)
    obtain ⟨lo, U, hU, eU⟩ := bars hn9 hM
    have hle := hM.le
    -- of a set: how many, how many odd parts
    have oddS : ∀ S, S < 2 ^ g.n.toNat → oddP g.n.toNat (EB g) (outS g.n.toNat S) ≤ g.n - 2 * (l.length : Int) + onesT S 9 := fun S hS => by
      have := lo (fun x => x < g.n.toNat ∧ inS S x = true) fun x hx => hx.1
      rw [← outS_eq, onesT_num, onesT_table ⟨S, by omega⟩ ⟨g.n.toNat, by omega⟩ hS] at this
      rw [show ((g.n.toNat : Nat) : Int) = g.n by omega] at this
      exact this
    have b1 : ∀ S, 0 ≤ onesT S 9 ∧ onesT S 9 ≤ 9 := fun S => by
      have := onesT_num (S := S) (n := 9)
      have := num_upto (A := fun x => x < 9 ∧ inS S x = true) 9
      omega
    have b2 : ∀ S, 0 ≤ oddP g.n.toNat (EB g) (outS g.n.toNat S) ∧ oddP g.n.toNat (EB g) (outS g.n.toNat S) ≤ 9 := fun S => by
      have := num_upto (A := fun x => Fst (EB g) (outS g.n.toNat S) x ∧ cl g.n.toNat (EB g) (outS g.n.toNat S) x % 2 = 1) g.n.toNat
      unfold oddP
      omega
    obtain ⟨S0, hS0, hb0⟩ := number_of U g.n.toNat hn9
    have eS0 : g.n - 2 * (l.length : Int) + onesT S0 9 = oddP g.n.toNat (EB g) (outS g.n.toNat S0) := by
      have e1 : num U g.n.toNat = onesT S0 9 := by
        rw [← onesT_table ⟨S0, by omega⟩ ⟨g.n.toNat, by omega⟩ hS0]
        dsimp only
        rw [← onesT_num]
        exact num_congr fun x hx => ⟨fun z => ⟨hx, (hb0 x hx).2 z⟩, fun z => (hb0 x hx).1 z.2⟩
      have e2 : (fun x => x < g.n.toNat ∧ ¬ U x) = outS g.n.toNat S0 := by
        rw [outS_eq]
        refine funext fun x => propext ⟨fun z => ⟨z.1, fun w => z.2 ((hb0 x z.1).1 w.2)⟩, fun z => ⟨z.1, fun w => z.2 ⟨z.1, (hb0 x z.1).2 w⟩⟩⟩
      rw [e1, e2, show ((g.n.toNat : Nat) : Int) = g.n by omega] at eU
      exact eU
    -- the bar
    have hbar : ∃ S : Nat, S < 2 ^ g.n.toNat ∧ blossom_Bar_F g = some ((S : Int), 0) ∧ g.n - 2 * (l.length : Int) + onesT S 9 = oddP g.n.toNat (EB g) (outS g.n.toNat S) := by
      obtain ⟨m, em, ml, mS⟩ := most_table hg hn
      obtain ⟨t1, t2, t3⟩ := two_table ⟨g.n.toNat, by omega⟩
      dsimp only at t1 t2 t3
      have hck : blossom_Check_F g = some 0 := by
        unfold blossom_Check_F
        rw [checkLong_ok hg, bind_some', if_neg (by decide), if_neg (by omega)]
      unfold blossom_Bar_F
      rw [hck, bind_some', if_neg (by decide), em, bind_some', ck_some (by omega), t1, ck_some (by unfold InI; omega), Int.toNat_natCast]
      have ev : m.getD (2 ^ g.n.toNat - 1) 0 = (l.length : Int) := (mS _ (by omega)).uniq hM
      obtain ⟨q, eq, S, q1, q2, q3⟩ := forC_or (f := blossom_Bar_B1 g m) (fun j _ => ∀ S, S < j → ¬ g.n - 2 * (l.length : Int) + onesT S 9 = oddP g.n.toNat (EB g) (outS g.n.toNat S)) (fun q => ∃ S : Nat, q = .ret ((S : Int), 0) ∧ S < 2 ^ g.n.toNat ∧ g.n - 2 * (l.length : Int) + onesT S 9 = oddP g.n.toNat (EB g) (outS g.n.toNat S)) (n := 2 ^ g.n.toNat) (k := 0) (s := ()) (fun S hS => absurd hS (by omega)) (fun j s _ hj hI => by
        have hj' : j < 512 := by omega
        have hb1 := b1 j
        have hb2 := b2 j
        unfold blossom_Bar_B1
        rw [t1, ck_some (by unfold InI; omega), ck_some (by omega), show ((((2 ^ g.n.toNat : Nat) : Int) - 1).toNat) = 2 ^ g.n.toNat - 1 by omega, ev, ck_some (by unfold InI; omega)]
        have o1 := onesB_table ⟨j, hj'⟩
        dsimp only at o1
        rw [o1, bind_some', ck_some (by unfold InI; omega), blossomOdd_ok hg hn hj', bind_some', ck_some (by unfold InI; omega)]
        by_cases c : 2 * (l.length : Int) = g.n + onesT j 9 - oddP g.n.toNat (EB g) (outS g.n.toNat j)
        · rw [if_pos c, (wrap_table ⟨j, hj'⟩).2]
          exact .inr (.inr ⟨_, rfl, j, rfl, by omega, by omega⟩)
        · rw [if_neg c]
          refine .inl ⟨(), rfl, fun S hS => ?_⟩
          by_cases q : S = j
          · subst q; omega
          · exact hI S (by omega)) (fun s hI => absurd eS0 (hI S0 (by omega)))
      rw [eq, bind_some', q1]
      exact ⟨S, q2, rfl, q3⟩
    obtain ⟨B, hB, eB, hBe⟩ := hbar
    obtain ⟨S, hS, eS⟩ := mask_ok hn9 set
    have o1 := onesR_table ⟨S, by omega⟩
    have o2 := onesR_table ⟨B, by omega⟩
    dsimp only at o1 o2
    have hb1 := b1 S
    have hb2 := b2 S
    have hb3 := b1 B
    have hb4 := b2 B
    have hlS := oddS S hS
    rw [el, bind_some']
    dsimp only
    rw [if_neg (by decide), ck_some (by omega), eB, bind_some']
    dsimp only
    rw [if_pos rfl, ck_some (by unfold InI; omega), ck_some (by unfold InI; omega), eS, refOdd_ok hg hn (by omega), bind_some', o1, bind_some', ck_some (by unfold InI; omega), if_pos (by omega)]
    rw [(wrap_table ⟨B, by omega⟩).1]
    dsimp only
    rw [refOdd_ok hg hn (by omega), bind_some', o2, bind_some', ck_some (by unfold InI; omega)]
    exact congrArg some (decide_eq_true (by omega))
  · obtain ⟨e, he, e1⟩ := most_refused h
    rw [e1, bind_some']
    dsimp only
    rw [if_pos he]
    rfl
end Go.Proofs.Ytdpkdicciclobaa
