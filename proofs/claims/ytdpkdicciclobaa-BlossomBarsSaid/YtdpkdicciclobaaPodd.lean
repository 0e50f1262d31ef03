/- How many parts are odd: blossom's and the reference's. -/
import Derived.Test.YtdpkdicciclobaaPberge
import Derived.Test.YtdpkdicciclobaaPways
import Derived.Test.YtdpkdicciclobaaPparts
import Derived.Test.YtdpkdicciclobaaPblossom3
namespace Go.Proofs.Ytdpkdicciclobaa
open Go Go.Proofs.Ytdpkdicciclobaa.Sx
set_option linter.unusedVariables false
set_option linter.unusedSimpArgs false
/-! ### parts told by labels -/
theorem num_ex {A : Nat → Prop} {n : Nat} (h : 1 ≤ num A n) : ∃ x, x < n ∧ A x := by
  refine Classical.byContradiction fun w => ?_
  have := num_none (A := A) (n := n) fun x hx ha => w ⟨x, hx, ha⟩
  omega
theorem odd_labels {n m : Nat} {E : Nat → Nat → Prop} {T : Nat → Prop} {lam : Nat → Int} (hT : ∀ x, T x → x < n) (h1 : ∀ x, T x → 0 ≤ lam x ∧ lam x < m) (h2 : ∀ x y, T x → T y → (lam x = lam y ↔ Cn E T x y)) :
    tot (fun p => num (fun x => T x ∧ lam x = (p : Int)) n % 2) m = oddP n E T := by
  have e : tot (fun p => num (fun x => T x ∧ lam x = (p : Int)) n % 2) m = num (fun p => num (fun x => T x ∧ lam x = (p : Int)) n % 2 = 1) m := by
    unfold num
    refine tot_congr fun p _ => ?_
    split <;> omega
  rw [e]
  have cle : ∀ x, T x → cl n E T x = num (fun y => T y ∧ lam y = lam x) n := fun x hx => num_congr fun y _ => ⟨fun ⟨a, b⟩ => ⟨a, ((h2 x y hx a).2 b).symm⟩, fun ⟨a, b⟩ => ⟨a, (h2 x y hx a).1 b.symm⟩⟩
  refine Int.le_antisymm ?_ ?_
  · have pick : ∀ p : Nat, ∃ x, num (fun x => T x ∧ lam x = (p : Int)) n % 2 = 1 → Fst E T x ∧ lam x = (p : Int) := fun p => by
      by_cases c : num (fun x => T x ∧ lam x = (p : Int)) n % 2 = 1
      · have := num_nonneg (fun x => T x ∧ lam x = (p : Int)) n
        obtain ⟨x, _, hx⟩ := num_ex (A := fun x => T x ∧ lam x = (p : Int)) (n := n) (by omega)
        obtain ⟨z, ⟨z1, z2⟩, z3⟩ := least_nat (Q := fun x => T x ∧ lam x = (p : Int)) hx
        exact ⟨z, fun _ => ⟨⟨z1, fun y hy ty hc => z3 y hy ⟨ty, ((h2 y z ty z1).2 hc).trans z2⟩⟩, z2⟩⟩
      · exact ⟨0, fun w => absurd w c⟩
    obtain ⟨f, hf⟩ := Classical.axiomOfChoice pick
    refine num_inj (f := f) (fun p _ hp => ?_) fun p q _ _ hp hq he => ?_
    · obtain ⟨a, b⟩ := hf p hp
      refine ⟨hT _ a.1, a, ?_⟩
      rw [cle _ a.1, b]; exact hp
    · have a := (hf p hp).2
      have b := (hf q hq).2
      rw [he] at a
      have := a.symm.trans b
      omega
  · refine num_inj (f := fun x => (lam x).toNat) (fun x _ hx => ?_) fun x y _ _ hx hy he => ?_
    · obtain ⟨a, b⟩ := hx
      have c := h1 x a.1
      refine ⟨by omega, ?_⟩
      rw [cle _ a.1] at b
      rw [show (((lam x).toNat : Nat) : Int) = lam x by omega]; exact b
    · have c := h1 x hx.1.1
      have d := h1 y hy.1.1
      exact hx.1.eq hy.1 ((h2 x y hx.1.1 hy.1.1).1 (by omega))
/-! ### the graph without a set -/
def outS (n S : Nat) (x : Nat) : Prop := x < n ∧ inS S x = false
def keepA (S : Nat) (a : Arc) : Bool := !inS S a.f.toNat && !inS S a.t.toNat
def lessG (g : Graph) (S : Nat) : Graph := ⟨g.n, g.as.filter (keepA S)⟩
theorem lessG_ok {g : Graph} (hg : Ok g) (S : Nat) : Ok (lessG g S) := ⟨hg.n0, hg.n1, Nat.le_trans (List.length_filter_le _ _) hg.len, fun a ha => hg.arc a (List.mem_filter.1 ha).1⟩
/-- labels by which arcs outside of the set are joined, and no more -/
theorem lessG_cn {g : Graph} (hg : Ok g) {S : Nat} {l : List Int} (hlo : ∀ x, x < g.n.toNat → 0 ≤ l.getD x 0)
    (arc : ∀ a, a ∈ (lessG g S).as → l.getD a.f.toNat 0 = l.getD a.t.toNat 0) (snd : ∀ f : Int → Int, (∀ a, a ∈ (lessG g S).as → f a.f = f a.t) → ∀ x : Nat, x < g.n.toNat → f (l.getD x 0) = f x)
    {x y : Nat} (hx : outS g.n.toNat S x) (hy : outS g.n.toNat S y) : l.getD x 0 = l.getD y 0 ↔ Cn (EB g) (outS g.n.toNat S) x y := by
  constructor
  · intro h m hm
    have key : ∀ a, a ∈ (lessG g S).as → m a.f.toNat = m a.t.toNat := fun a ha => by
      obtain ⟨h1, h2⟩ := List.mem_filter.1 ha
      have G := hg.arc a h1
      have := G.f0; have := G.f1; have := G.t0; have := G.t1
      unfold keepA at h2
      simp only [Bool.and_eq_true, Bool.not_eq_true'] at h2
      obtain ⟨k, hk, rfl⟩ := getD_of_mem (d := (El.d : Arc)) h1
      exact hm _ _ ⟨by omega, h2.1⟩ ⟨by omega, h2.2⟩ ⟨k, hk, .inl ⟨by omega, by omega⟩⟩
    have a := snd (fun z => m z.toNat) key x hx.1
    have b := snd (fun z => m z.toNat) key y hy.1
    rw [Int.toNat_natCast] at a b
    rw [← a, ← b, h]
  · intro h
    refine h (fun x => l.getD x 0) fun u v hu hv ⟨k, hk, hj⟩ => ?_
    have hm := mem_getD (d := (El.d : Arc)) hk
    have mk : (g.as.getD k El.d).f.toNat < g.n.toNat → inS S (g.as.getD k El.d).f.toNat = false → inS S (g.as.getD k El.d).t.toNat = false → (g.as.getD k El.d) ∈ (lessG g S).as := fun _ h1 h2 => List.mem_filter.2 ⟨hm, by unfold keepA; rw [h1, h2]; rfl⟩
    have G := hg.arc _ hm
    have := G.f0; have := G.f1; have := G.t0; have := G.t1
    rcases hj with ⟨e1, e2⟩ | ⟨e1, e2⟩
    · have q1 : (g.as.getD k El.d).f.toNat = u := by omega
      have q2 : (g.as.getD k El.d).t.toNat = v := by omega
      have := arc _ (mk (by omega) (by rw [q1]; exact hu.2) (by rw [q2]; exact hv.2))
      rw [q1, q2] at this; exact this
    · have q1 : (g.as.getD k El.d).f.toNat = v := by omega
      have q2 : (g.as.getD k El.d).t.toNat = u := by omega
      have := arc _ (mk (by omega) (by rw [q1]; exact hv.2) (by rw [q2]; exact hu.2))
      rw [q1, q2] at this; exact this.symm
theorem bitS' {S : Nat} {x : Int} (hS : S < 512) (h0 : 0 ≤ x) (h1 : x < 9) : bitsOf .and .i64 (Int.fdiv ((S : Nat) : Int) (2 ^ min x.toNat 64)) 1 = 0 ↔ inS S x.toNat = false := by
  rw [bitS hS (by omega)]
  cases inS S x.toNat <;> simp
theorem tot_mod {f : Nat → Int} (n : Nat) : ∀ i, i < n → f i % 2 = f i % 2 := fun _ _ => rfl
/-- numbers are counted up -/
theorem num_upto {A : Nat → Prop} (j : Nat) : 0 ≤ num A j ∧ num A j ≤ j := ⟨num_nonneg A j, num_le_n A j⟩
/-! ### the reference's -/
theorem refOdd_ok {g : Graph} (hg : Ok g) (hn : g.n ≤ 9) {S : Nat} (hS : S < 512) : weirref_Odd_F g (S : Int) = some (oddP g.n.toNat (EB g) (outS g.n.toNat S)) := by
  have hn0 := hg.n0
  unfold weirref_Odd_F
  obtain ⟨l, e, hl⟩ := forN_inv (f := weirref_Odd_B1 g (S : Int)) (fun j l => l = (g.as.take j).filter (keepA S) ∧ l.length ≤ j) (n := g.as.length) (k := 0) (s := []) ⟨by simp, by simp⟩ fun j l _ hj ⟨i1, i2⟩ => by
    have hj' : j < g.as.length := by omega
    have G := hg.arc _ (mem_getD (d := (El.d : Arc)) hj')
    have hlen := hg.len
    unfold weirref_Odd_B1
    rw [ck_some G.f0]
    have b1 := bitS' (S := S) hS G.f0 (by have := G.f1; omega)
    have b2 := bitS' (S := S) hS G.t0 (by have := G.t1; omega)
    have ef : (g.as.take (j + 1)).filter (keepA S) = l ++ (if keepA S (g.as.getD j El.d) = true then [g.as.getD j El.d] else []) := by
      rw [take_succ_getD hj', List.filter_append, ← i1]
      refine congrArg (l ++ ·) ?_
      rw [List.filter_cons, List.filter_nil]
    by_cases c1 : inS S (g.as.getD j El.d).f.toNat = false
    · rw [if_pos (b1.2 c1), ck_some G.t0]
      by_cases c2 : inS S (g.as.getD j El.d).t.toNat = false
      · rw [if_pos (b2.2 c2), ck_some (by omega)]
        refine ⟨_, rfl, ?_, by simp; omega⟩
        rw [ef, if_pos (by unfold keepA; rw [c1, c2]; rfl)]
      · rw [if_neg (fun z => c2 (b2.1 z))]
        refine ⟨l, rfl, ?_, by omega⟩
        rw [ef, if_neg (by unfold keepA; rw [(Bool.not_eq_false _).mp c2]; simp), List.append_nil]
    · rw [if_neg (fun z => c1 (b1.1 z))]
      refine ⟨l, rfl, ?_, by omega⟩
      rw [ef, if_neg (by unfold keepA; rw [(Bool.not_eq_false _).mp c1]; simp), List.append_nil]
  have hl' : l = (lessG g S).as := by
    rw [hl.1, Nat.zero_add, List.take_of_length_le (Nat.le_refl _)]; rfl
  rw [e, bind_some', hl']
  have ok := lessG_ok hg S
  obtain ⟨j, ej, hj⟩ := joined_ok (g := lessG g S) (by have := ok.n0; omega) ok.n1 (by have := ok.len; omega) fun a ha => by have G := ok.arc a ha; exact ⟨⟨G.f0, G.f1⟩, G.t0, G.t1⟩
  rw [show (⟨g.n, (lessG g S).as⟩ : Graph) = lessG g S from rfl, ej, bind_some', ck_some (by unfold InI; omega)]
  have jl : j.length = g.n.toNat := hj.len
  have jlo : ∀ x, x < g.n.toNat → 0 ≤ j.getD x 0 ∧ j.getD x 0 < g.n := hj.lo
  have inner : ∀ p : Nat, forN (weirref_Odd_B3 (S : Int) j p) j.length 0 0 = some (num (fun x => outS g.n.toNat S x ∧ j.getD x 0 = (p : Int)) g.n.toNat).toNat := fun p => by
    obtain ⟨c, ec, h1⟩ := forN_inv (f := weirref_Odd_B3 (S : Int) j p) (fun k (c : Nat) => (c : Int) = num (fun x => outS g.n.toNat S x ∧ j.getD x 0 = (p : Int)) k) (n := j.length) (k := 0) (s := 0) rfl fun k c _ hk hc => by
      have hk' : k < g.n.toNat := by omega
      have := num_upto (A := fun x => outS g.n.toNat S x ∧ j.getD x 0 = (p : Int)) k
      unfold weirref_Odd_B3
      have b := bitS (k := k) hS (by omega)
      by_cases c1 : j.getD k 0 = ((p : Nat) : Int)
      · rw [if_pos c1, b]
        by_cases c2 : inS S k = true
        · rw [if_pos c2, if_neg (by decide)]
          exact ⟨c, rfl, by rw [num_f (by rintro ⟨⟨_, z⟩, _⟩; rw [c2] at z; cases z)]; exact hc⟩
        · rw [if_neg c2, if_pos rfl, ck_some (by unfold InI; omega)]
          refine ⟨c + 1, rfl, ?_⟩
          rw [num_t ⟨⟨hk', by simpa using c2⟩, c1⟩]; omega
      · rw [if_neg c1]
        exact ⟨c, rfl, by rw [num_f (fun z => c1 z.2)]; exact hc⟩
    rw [ec]
    refine congrArg some ?_
    rw [Nat.zero_add, jl] at h1
    omega
  obtain ⟨s, es, h1⟩ := forN_inv (f := weirref_Odd_B2 (S : Int) j) (fun k s => s = tot (fun p => num (fun x => outS g.n.toNat S x ∧ j.getD x 0 = (p : Int)) g.n.toNat % 2) k ∧ 0 ≤ s ∧ s ≤ k) (n := g.n.toNat) (k := 0) (s := 0) ⟨rfl, by omega, by omega⟩ fun k s _ hk ⟨i1, i2, i3⟩ => by
    unfold weirref_Odd_B2
    have := num_upto (A := fun x => outS g.n.toNat S x ∧ j.getD x 0 = (k : Int)) g.n.toNat
    have em : Int.tmod (((num (fun x => outS g.n.toNat S x ∧ j.getD x 0 = (k : Int)) g.n.toNat).toNat : Nat) : Int) 2 = num (fun x => outS g.n.toNat S x ∧ j.getD x 0 = (k : Int)) g.n.toNat % 2 := by
      rw [show (((num (fun x => outS g.n.toNat S x ∧ j.getD x 0 = (k : Int)) g.n.toNat).toNat : Nat) : Int) = num (fun x => outS g.n.toNat S x ∧ j.getD x 0 = (k : Int)) g.n.toNat by omega]
      exact Int.tmod_eq_emod_of_nonneg this.1
    rw [inner k, bind_some', em]
    obtain ⟨c, hc⟩ : ∃ c, c = num (fun x => outS g.n.toNat S x ∧ j.getD x 0 = (k : Int)) g.n.toNat := ⟨_, rfl⟩
    rw [← hc] at this ⊢
    rw [ck_some (by unfold InI; omega)]
    exact ⟨_, rfl, by rw [tot, ← i1, ← hc], by omega, by omega⟩
  rw [es, bind_some', h1.1, Nat.zero_add]
  refine congrArg some (odd_labels (lam := fun x => j.getD x 0) (fun x hx => hx.1) (fun x hx => by have := jlo x hx.1; omega) fun x y hx hy => lessG_cn hg (fun x hx => (jlo x hx).1) hj.arc hj.snd hx hy)
/-! ### blossom's -/
theorem id_loop : forN (blossom_odd_B1) 12 0 (fun _ => (0 : Int) : Nat → Int) = some (fun x : Nat => if x < 12 then (x : Int) else 0) := by
  obtain ⟨f, e, h⟩ := forN_inv (f := blossom_odd_B1) (fun j f => ∀ x, f x = if x < j then (x : Int) else 0) (n := 12) (k := 0) (s := fun _ => 0) (fun x => by simp) fun j f _ hj hI => by
    refine ⟨_, rfl, fun x => ?_⟩
    unfold updF
    by_cases q : x = j
    · subst q; rw [if_pos rfl, if_pos (by omega)]
    · rw [if_neg q, hI x]
      by_cases q2 : x < j
      · rw [if_pos q2, if_pos (by omega)]
      · rw [if_neg q2, if_neg (by omega)]
  rw [e]
  exact congrArg some (funext h)
theorem odd_round {g : Graph} (hg : Ok g) (hn : g.n ≤ 9) {S : Nat} (hS : S < 512) {f : Nat → Int} {l : List Int} (hl : l.length = g.n.toNat) (hr : ∀ x, x < g.n.toNat → f x = l.getD x 0) :
    ∃ f', forN (blossom_odd_B3 g (S : Int)) g.as.length 0 f = some f' ∧ ∀ x, x < g.n.toNat → f' x = (joinAll (lessG g S).as l).getD x 0 := by
  obtain ⟨f', e, h1, h2⟩ := forN_inv (f := blossom_odd_B3 g (S : Int)) (fun j f => (∀ x, x < g.n.toNat → f x = (joinAll ((g.as.take j).filter (keepA S)) l).getD x 0) ∧ (joinAll ((g.as.take j).filter (keepA S)) l).length = g.n.toNat) (n := g.as.length) (k := 0) (s := f) ⟨hr, hl⟩ fun j f _ hj ⟨i1, i2⟩ => by
    have hj' : j < g.as.length := by omega
    have G := hg.arc _ (mem_getD (d := El.d) hj')
    have f0 := G.f0; have f1 := G.f1; have t0 := G.t0; have t1 := G.t1
    unfold blossom_odd_B3
    rw [ck_some f0]
    have b1 := bitS' (S := S) hS f0 (by omega)
    have b2 := bitS' (S := S) hS t0 (by omega)
    have ef : joinAll ((g.as.take (j + 1)).filter (keepA S)) l = if keepA S (g.as.getD j El.d) = true then joinA (joinAll ((g.as.take j).filter (keepA S)) l) (g.as.getD j El.d) else joinAll ((g.as.take j).filter (keepA S)) l := by
      rw [take_succ_getD hj', List.filter_append, List.filter_cons, List.filter_nil]
      unfold joinAll
      split
      · rw [List.foldl_append]; rfl
      · rw [List.append_nil]
    by_cases c1 : inS S (g.as.getD j El.d).f.toNat = false
    · rw [if_pos (b1.2 c1), ck_some t0]
      by_cases c2 : inS S (g.as.getD j El.d).t.toNat = false
      · rw [if_pos (b2.2 c2), ck_some ⟨f0, by omega⟩, ck_some ⟨t0, by omega⟩, ef, if_pos (by unfold keepA; rw [c1, c2]; rfl)]
        obtain ⟨L, eL⟩ : ∃ L, L = joinAll ((g.as.take j).filter (keepA S)) l := ⟨_, rfl⟩
        rw [← eL] at i1 i2 ⊢
        refine ⟨_, rfl, fun x hx => ?_, by simp [joinA, i2]⟩
        have ja := joinA_at (g := g) i2 G (x := (x : Int)) (by omega)
        unfold atI at ja
        rw [Int.toNat_natCast] at ja
        rw [ja, i1 _ (by omega : (g.as.getD j El.d).f.toNat < g.n.toNat), i1 _ (by omega : (g.as.getD j El.d).t.toNat < g.n.toNat)]
        unfold updF
        by_cases q1 : x = (g.as.getD j El.d).t.toNat
        · rw [if_pos q1, if_pos (by omega)]
        · rw [if_neg q1]
          by_cases q2 : x = (g.as.getD j El.d).f.toNat
          · rw [if_pos q2, if_pos (by omega)]
          · rw [if_neg q2, if_neg (by omega)]; exact i1 x hx
      · rw [if_neg (fun z => c2 (b2.1 z)), ef, if_neg (by unfold keepA; rw [(Bool.not_eq_false _).mp c2]; simp)]
        exact ⟨f, rfl, i1, i2⟩
    · rw [if_neg (fun z => c1 (b1.1 z)), ef, if_neg (by unfold keepA; rw [(Bool.not_eq_false _).mp c1]; simp)]
      exact ⟨f, rfl, i1, i2⟩
  refine ⟨f', e, fun x hx => ?_⟩
  rw [h1 x hx, Nat.zero_add, List.take_of_length_le (Nat.le_refl _)]; rfl
theorem blossomOdd_ok {g : Graph} (hg : Ok g) (hn : g.n ≤ 9) {S : Nat} (hS : S < 512) : blossom_odd_F g (S : Int) = some (oddP g.n.toNat (EB g) (outS g.n.toNat S)) := by
  have hn0 := hg.n0
  unfold blossom_odd_F
  have ok := lessG_ok hg S
  have hP : Parted (lessG g S) (rounds (lessG g S).as g.n.toNat (nodes (fun i => i) g.n)) := rounds_parted ok
  obtain ⟨f, e, hf⟩ := forN_inv (f := blossom_odd_B2 g (S : Int)) (fun r f => (∀ x, x < g.n.toNat → f x = (rounds (lessG g S).as r (nodes (fun i => i) g.n)).getD x 0)) (n := g.n.toNat) (k := 0) (s := fun x : Nat => if x < 12 then (x : Int) else 0) (fun x hx => by
      show (if x < 12 then (x : Int) else 0) = (nodes (fun i => i) g.n).getD x 0
      rw [nodes_getD _ (by omega), if_pos (by omega)]) fun r f _ hr hI => by
    obtain ⟨f', e, h⟩ := odd_round hg hn hS (rounds_len ok r) hI
    exact ⟨f', by unfold blossom_odd_B2; rw [e]; rfl, h⟩
  rw [id_loop, bind_some', ck_some (by unfold InI; omega), e, bind_some']
  rw [Nat.zero_add] at hf
  obtain ⟨l, el⟩ : ∃ l, l = rounds (lessG g S).as g.n.toNat (nodes (fun i => i) g.n) := ⟨_, rfl⟩
  rw [← el] at hP hf
  have lo : ∀ x, x < g.n.toNat → 0 ≤ l.getD x 0 ∧ l.getD x 0 ≤ x := fun x hx => by
    have h := hP.pi.lo (x : Int) (by omega) (by show (x : Int) < g.n; omega)
    unfold atI at h
    rwa [Int.toNat_natCast] at h
  obtain ⟨c, ec, h1⟩ := forN_inv (f := blossom_odd_B4 (S : Int) f) (fun k (c : Nat → Int) => ∀ p : Nat, c p = num (fun x => outS g.n.toNat S x ∧ l.getD x 0 = (p : Int)) k) (n := g.n.toNat) (k := 0) (s := fun _ => 0) (fun p => rfl) fun k c _ hk hc => by
    have hk' : k < g.n.toNat := by omega
    unfold blossom_odd_B4
    rw [bitS (k := k) hS (by omega)]
    have := lo k hk'
    by_cases c2 : inS S k = true
    · rw [if_pos c2, if_neg (by decide)]
      exact ⟨c, rfl, fun p => by rw [num_f (by rintro ⟨⟨_, z⟩, _⟩; rw [c2] at z; cases z)]; exact hc p⟩
    · have up := num_upto (A := fun x => outS g.n.toNat S x ∧ l.getD x 0 = ((f k).toNat : Int)) k
      rw [if_neg c2, if_pos rfl, ck_some (by omega), ck_some (by rw [hf k hk']; omega), ck_some (by rw [hc]; unfold InI; omega)]
      refine ⟨_, rfl, fun p => ?_⟩
      unfold updF
      have e1 : f k = l.getD k 0 := hf k hk'
      by_cases q : p = (f k).toNat
      · rw [if_pos q, hc, num_t ⟨⟨hk', by simpa using c2⟩, by omega⟩, q]
      · rw [if_neg q, hc, num_f (by rintro ⟨_, z⟩; omega)]
  rw [ec, bind_some']
  rw [Nat.zero_add] at h1
  obtain ⟨s, es, h2⟩ := forN_inv (f := blossom_odd_B5 c) (fun k s => s = tot (fun p => num (fun x => outS g.n.toNat S x ∧ l.getD x 0 = (p : Int)) g.n.toNat % 2) k ∧ 0 ≤ s ∧ s ≤ k) (n := 12) (k := 0) (s := 0) ⟨rfl, by omega, by omega⟩ fun k s _ hk ⟨i1, i2, i3⟩ => by
    unfold blossom_odd_B5
    have := num_upto (A := fun x => outS g.n.toNat S x ∧ l.getD x 0 = (k : Int)) g.n.toNat
    rw [h1 k, Int.tmod_eq_emod_of_nonneg this.1]
    obtain ⟨c, hc⟩ : ∃ c, c = num (fun x => outS g.n.toNat S x ∧ l.getD x 0 = (k : Int)) g.n.toNat := ⟨_, rfl⟩
    rw [← hc] at this ⊢
    rw [ck_some (by unfold InI; omega)]
    exact ⟨_, rfl, by rw [tot, ← i1, ← hc], by omega, by omega⟩
  rw [es, bind_some', h2.1, Nat.zero_add]
  refine congrArg some (odd_labels (lam := fun x => l.getD x 0) (fun x hx => hx.1) (fun x hx => by have := lo x hx.1; have := hx.1; omega) fun x y hx hy => lessG_cn hg (fun x hx => (lo x hx).1) hP.arc (fun m hm x hx => ?_) hx hy)
  have := hP.pi.joined m hm (x : Int) (by omega) (by show (x : Int) < g.n; omega)
  unfold atI at this
  rwa [Int.toNat_natCast] at this
end Go.Proofs.Ytdpkdicciclobaa
