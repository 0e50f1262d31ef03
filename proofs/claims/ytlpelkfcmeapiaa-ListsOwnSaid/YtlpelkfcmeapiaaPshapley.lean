/- Package stable: Best tells the way that is best for each of the first side. -/
import Derived.Test.YtlpelkfcmeapiaaPstable
namespace Go.Proofs.Ytlpelkfcmeapiaa
open Go Go.Proofs.Ytlpelkfcmeapiaa.Sx
set_option linter.unusedVariables false
set_option linter.unusedSimpArgs false
theorem repeat_table : ∀ n : Fin 7, slices_Repeat_int_F [-1] ((n.val : Nat) : Int) = some (List.replicate n.val (-1)) := by decide +kernel
theorem OkS.rk0 {a b : List (List Int)} (h : OkS a b) {i k : Nat} (hi : i < a.length) (hk : k < a.length) : 0 ≤ rk a i (k : Int) ∧ rk a i (k : Int) < (a.length : Int) := by
  have := ix_mem ((h.pa i hi).all k hk)
  rw [(h.pa i hi).len] at this
  exact ⟨this.1, this.2.1⟩
/-- the state of who asks whom -/
structure GS (a b : List (List Int)) (m nx : List Int) : Prop where
  lm : m.length = a.length
  ln : nx.length = a.length
  mr : ∀ k, k < a.length → -1 ≤ m.getD k 0 ∧ m.getD k 0 < (a.length : Int)
  nr : ∀ i, i < a.length → 0 ≤ nx.getD i 0 ∧ nx.getD i 0 ≤ (a.length : Int)
  had : ∀ k i : Nat, k < a.length → i < a.length → m.getD k 0 = (i : Int) → rk a i (k : Int) = nx.getD i 0 - 1
  asked : ∀ i k : Nat, i < a.length → k < a.length → rk a i (k : Int) < nx.getD i 0 → 0 ≤ m.getD k 0 ∧ rkB b (k : Int) (m.getD k 0).toNat ≤ rkB b (k : Int) i
  never : ∀ i k : Nat, i < a.length → k < a.length → rk a i (k : Int) < nx.getD i 0 → m.getD k 0 ≠ (i : Int) → ∀ p, StabL a b p → p.getD i 0 ≠ (k : Int)
theorem reject {a b : List (List Int)} (hok : OkS a b) {h r k : Nat} (hh : h < a.length) (hr : r < a.length) (hk : k < a.length) (hne : h ≠ r) (hb : rkB b (k : Int) h < rkB b (k : Int) r)
    (hprev : ∀ m : Nat, m < a.length → rk a h (m : Int) < rk a h (k : Int) → ∀ p, StabL a b p → p.getD h 0 ≠ (m : Int)) : ∀ p, StabL a b p → p.getD r 0 ≠ (k : Int) := fun p hp e => by
  have R := hok.ranks
  have rg := hp.rg h hh
  have st := hp.st h r hh hr
  try dsimp only at rg st
  rw [e] at st
  obtain ⟨m, hm⟩ : ∃ m : Nat, p.getD h 0 = (m : Int) := ⟨(p.getD h 0).toNat, by omega⟩
  rw [hm] at st rg
  by_cases c : rk a h (k : Int) < rk a h (m : Int)
  · exact st c hb
  · by_cases c2 : rk a h (m : Int) = rk a h (k : Int)
    · have := R.r h (m : Int) (k : Int) hh rg.1 rg.2 (by omega) (by omega) c2
      have e2 : p.getD h 0 = p.getD r 0 := by rw [hm, e, this]
      exact hne (hp.inj h r hh hr e2)
    · exact hprev m (by omega) (by omega) p hp hm
section
variable {a b : List (List Int)} (hok : OkS a b) {m nx : List Int} (h : GS a b m nx) {i k : Nat} (hi : i < a.length) (hk : k < a.length) (hrk : rk a i (k : Int) = nx.getD i 0) (hfree : ∀ k', k' < a.length → m.getD k' 0 ≠ (i : Int))
include hok h hi hk hrk hfree
theorem GS.stay (h0 : 0 ≤ m.getD k 0) (hn : ¬ rkB b (k : Int) i < rkB b (k : Int) (m.getD k 0).toNat) : GS a b m (nx.set i (nx.getD i 0 + 1)) := by
  have R := hok.ranks
  have nxe : ∀ j, (nx.set i (nx.getD i 0 + 1)).getD j 0 = if j = i then nx.getD i 0 + 1 else nx.getD j 0 := fun j => by
    have := h.ln
    rw [getD_set']
    by_cases e : j = i
    · rw [if_pos ⟨e, by omega⟩, if_pos e]
    · rw [if_neg (fun z => e z.1), if_neg e]
  have rb := hok.rk0 hi hk
  have mk := h.mr k hk
  obtain ⟨o, ho⟩ : ∃ o : Nat, m.getD k 0 = (o : Int) := ⟨(m.getD k 0).toNat, by omega⟩
  have ho' : o < a.length := by omega
  rw [ho, Int.toNat_natCast] at hn
  have hoi : o ≠ i := fun e => hfree k hk (by rw [ho, e])
  have hlt : rkB b (k : Int) o < rkB b (k : Int) i := by
    have : rkB b (k : Int) o ≠ rkB b (k : Int) i := fun e => hoi (R.s (k : Int) o i (by omega) (by omega) ho' hi e)
    omega
  refine ⟨h.lm, by rw [List.length_set]; exact h.ln, h.mr, fun j hj => ?_, fun k' i' hk' hi' e => ?_, fun i' k' hi' hk' hlt' => ?_, fun i' k' hi' hk' hlt' hne => ?_⟩
  · rw [nxe]
    have := h.nr j hj
    split <;> omega
  · rw [nxe, if_neg (fun z => hfree k' hk' (by rw [e, z]))]
    exact h.had k' i' hk' hi' e
  · rw [nxe] at hlt'
    by_cases e : i' = i
    · rw [if_pos e] at hlt'
      subst e
      by_cases e2 : rk a i' (k' : Int) < nx.getD i' 0
      · exact h.asked i' k' hi' hk' e2
      · have := R.r i' (k' : Int) (k : Int) hi' (by omega) (by omega) (by omega) (by omega) (by omega)
        obtain rfl : k' = k := by omega
        rw [ho, Int.toNat_natCast]
        exact ⟨by omega, by omega⟩
    · rw [if_neg e] at hlt'
      exact h.asked i' k' hi' hk' hlt'
  · rw [nxe] at hlt'
    by_cases e : i' = i
    · rw [if_pos e] at hlt'
      subst e
      by_cases e2 : rk a i' (k' : Int) < nx.getD i' 0
      · exact h.never i' k' hi' hk' e2 hne
      · have := R.r i' (k' : Int) (k : Int) hi' (by omega) (by omega) (by omega) (by omega) (by omega)
        obtain rfl : k' = k := by omega
        have hd := h.had k' o hk' ho' ho
        exact reject hok ho' hi' hk' hoi hlt fun m' hm' hlm => h.never o m' ho' hm' (by omega) fun z => by
          have := h.had m' o hm' ho' z
          omega
    · rw [if_neg e] at hlt'
      exact h.never i' k' hi' hk' hlt' hne
theorem GS.take (hn : m.getD k 0 < 0 ∨ rkB b (k : Int) i < rkB b (k : Int) (m.getD k 0).toNat) : GS a b (m.set k (i : Int)) (nx.set i (nx.getD i 0 + 1)) := by
  have R := hok.ranks
  have nxe : ∀ j, (nx.set i (nx.getD i 0 + 1)).getD j 0 = if j = i then nx.getD i 0 + 1 else nx.getD j 0 := fun j => by
    have := h.ln
    rw [getD_set']
    by_cases e : j = i
    · rw [if_pos ⟨e, by omega⟩, if_pos e]
    · rw [if_neg (fun z => e z.1), if_neg e]
  have me : ∀ j, (m.set k (i : Int)).getD j 0 = if j = k then (i : Int) else m.getD j 0 := fun j => by
    have := h.lm
    rw [getD_set']
    by_cases e : j = k
    · rw [if_pos ⟨e, by omega⟩, if_pos e]
    · rw [if_neg (fun z => e z.1), if_neg e]
  have rb := hok.rk0 hi hk
  have mk := h.mr k hk
  refine ⟨by rw [List.length_set]; exact h.lm, by rw [List.length_set]; exact h.ln, fun j hj => ?_, fun j hj => ?_, fun k' i' hk' hi' e => ?_, fun i' k' hi' hk' hlt' => ?_, fun i' k' hi' hk' hlt' hne => ?_⟩
  · rw [me]
    have := h.mr j hj
    split <;> omega
  · rw [nxe]
    have := h.nr j hj
    split <;> omega
  · rw [me] at e
    rw [nxe]
    by_cases e2 : k' = k
    · rw [if_pos e2] at e
      obtain rfl : i = i' := by omega
      subst e2
      rw [if_pos rfl]; omega
    · rw [if_neg e2] at e
      rw [if_neg (fun z => hfree k' hk' (by rw [e, z]))]
      exact h.had k' i' hk' hi' e
  · rw [nxe] at hlt'
    rw [me]
    have old : rk a i' (k' : Int) < nx.getD i' 0 → 0 ≤ (if k' = k then (i : Int) else m.getD k' 0) ∧ rkB b (k' : Int) (if k' = k then (i : Int) else m.getD k' 0).toNat ≤ rkB b (k' : Int) i' := fun hlt => by
      have := h.asked i' k' hi' hk' hlt
      by_cases e2 : k' = k
      · subst e2
        rw [if_pos rfl, Int.toNat_natCast]
        omega
      · rw [if_neg e2]; exact this
    by_cases e : i' = i
    · rw [if_pos e] at hlt'
      by_cases e2 : rk a i' (k' : Int) < nx.getD i' 0
      · exact old e2
      · subst e
        have := R.r i' (k' : Int) (k : Int) hi' (by omega) (by omega) (by omega) (by omega) (by omega)
        obtain rfl : k' = k := by omega
        rw [if_pos rfl, Int.toNat_natCast]
        omega
    · rw [if_neg e] at hlt'
      exact old hlt'
  · rw [nxe] at hlt'
    rw [me] at hne
    by_cases e : i' = i
    · rw [if_pos e] at hlt'
      subst e
      by_cases e2 : rk a i' (k' : Int) < nx.getD i' 0
      · exact h.never i' k' hi' hk' e2 (hfree k' hk')
      · have := R.r i' (k' : Int) (k : Int) hi' (by omega) (by omega) (by omega) (by omega) (by omega)
        obtain rfl : k' = k := by omega
        rw [if_pos rfl] at hne
        exact absurd rfl hne
    · rw [if_neg e] at hlt'
      by_cases e2 : m.getD k' 0 = (i' : Int)
      · have e3 : k' = k := Classical.byContradiction fun z => by
          rw [if_neg z] at hne
          exact hne e2
        subst e3
        have hb : rkB b (k' : Int) i < rkB b (k' : Int) i' := by
          rcases hn with z | z
          · omega
          · rw [e2, Int.toNat_natCast] at z; exact z
        exact reject hok hi hi' hk' (fun z => e z.symm) hb fun m' hm' hlm => h.never i m' hi hm' (by omega) (hfree m' hm')
      · exact h.never i' k' hi' hk' hlt' e2
end
theorem GS.inj {a b : List (List Int)} (hok : OkS a b) {m nx : List Int} (h : GS a b m nx) {k k' : Nat} (hk : k < a.length) (hk' : k' < a.length) (h0 : 0 ≤ m.getD k 0) (e : m.getD k 0 = m.getD k' 0) : k = k' := by
  have R := hok.ranks
  have mk := h.mr k hk
  obtain ⟨o, ho⟩ : ∃ o : Nat, m.getD k 0 = (o : Int) := ⟨(m.getD k 0).toNat, by omega⟩
  have a1 := h.had k o hk (by omega) ho
  have a2 := h.had k' o hk' (by omega) (by rw [← e, ho])
  have := R.r o (k : Int) (k' : Int) (by omega) (by omega) (by omega) (by omega) (by omega) (by omega)
  omega
theorem tot_set {nx : List Int} {n i : Nat} (hi : i < n) (hl : nx.length = n) (v : Int) : tot (fun j => (nx.set i v).getD j 0) n = tot (fun j => nx.getD j 0) n + (v - nx.getD i 0) := by
  have e1 : tot (fun j => (nx.set i v).getD j 0) n = tot (fun j => nx.getD j 0 + if j = i then v - nx.getD i 0 else 0) n := tot_congr fun j hj => by
    rw [getD_set']
    by_cases e : j = i
    · subst e
      rw [if_pos ⟨rfl, by omega⟩, if_pos rfl]; omega
    · rw [if_neg (fun z => e z.1), if_neg e]; omega
  rw [e1, tot_add (fun j => nx.getD j 0) (fun j => if j = i then v - nx.getD i 0 else 0), tot_single hi fun j _ hne => if_neg hne, if_pos rfl]
/-- one of the first side comes in, and asks go on until nobody is without -/
theorem asks_ok {a b : List (List Int)} (hok : OkS a b) {m nx : List Int} {t : Nat} (ht : t < a.length) (h : GS a b m nx) (hin : ∀ i : Nat, i < t → ∃ k, k < a.length ∧ m.getD k 0 = (i : Int)) (hlt : ∀ k, k < a.length → m.getD k 0 < (t : Int)) :
    ∃ m' nx', stable_Best_B1 a b t (m, nx) = some (m', nx') ∧ GS a b m' nx' ∧ (∀ i : Nat, i < t + 1 → ∃ k, k < a.length ∧ m'.getD k 0 = (i : Int)) ∧ ∀ k, k < a.length → m'.getD k 0 < ((t + 1 : Nat) : Int) := by
  have n6 := hok.n
  have lb := hok.lb
  have tb : ∀ nx : List Int, (∀ i, i < a.length → 0 ≤ nx.getD i 0 ∧ nx.getD i 0 ≤ (a.length : Int)) → 0 ≤ tot (fun j => nx.getD j 0) a.length ∧ tot (fun j => nx.getD j 0) a.length ≤ 36 := fun nx hn => by
    have h1 := tot_nonneg (f := fun j => nx.getD j 0) (n := a.length) fun i hi => (hn i hi).1
    have h2 := tot_le (f := fun j => nx.getD j 0) (g := fun _ => 6) (n := a.length) fun i hi => by have := hn i hi; omega
    rw [tot_const] at h2
    omega
  obtain ⟨q, e, m', nx', x', rfl, r1, r2, r3⟩ := loopC_or (f := stable_Best_B2 a b) (fun (τ : List Int × List Int × Int) => GS a b τ.1 τ.2.1 ∧ (-1 ≤ τ.2.2 ∧ τ.2.2 ≤ (t : Int)) ∧ (∀ k, k < a.length → 0 ≤ τ.2.2 → τ.1.getD k 0 ≠ τ.2.2) ∧ (∀ i : Nat, i < t + 1 → (i : Int) ≠ τ.2.2 → ∃ k, k < a.length ∧ τ.1.getD k 0 = (i : Int)) ∧ ∀ k, k < a.length → τ.1.getD k 0 < ((t + 1 : Nat) : Int))
    (fun q => ∃ m' nx' x', q = .go (m', nx', x') ∧ GS a b m' nx' ∧ (∀ i : Nat, i < t + 1 → ∃ k, k < a.length ∧ m'.getD k 0 = (i : Int)) ∧ ∀ k, k < a.length → m'.getD k 0 < ((t + 1 : Nat) : Int)) (fun τ => (36 - tot (fun j => τ.2.1.getD j 0) a.length).toNat) (fun τ ⟨i1, i2, i3, i4, i5⟩ => by
    obtain ⟨m, nx, x⟩ := τ
    dsimp only at i1 i2 i3 i4 i5
    unfold stable_Best_B2
    dsimp only
    by_cases c : 0 ≤ x
    · obtain ⟨i, rfl⟩ : ∃ i : Nat, x = (i : Int) := ⟨x.toNat, by omega⟩
      have hi : i < a.length := by omega
      have hln := i1.ln
      have hlm := i1.lm
      have hnr := i1.nr i hi
      have hfree : ∀ k', k' < a.length → m.getD k' 0 ≠ (i : Int) := fun k' hk' => i3 k' hk' (by omega)
      have hA := hok.pa i hi
      have hAl := hA.len
      have hroom : nx.getD i 0 < (a.length : Int) := by
        refine Int.lt_of_not_ge fun z => ?_
        have all : ∀ k, k < a.length → 0 ≤ m.getD k 0 ∧ m.getD k 0 < (a.length : Int) := fun k hk => by
          have := hok.rk0 hi hk
          have := i1.asked i k hi hk (by omega)
          have := i1.mr k hk
          omega
        obtain ⟨k, hk, e⟩ := inj_surjI (f := fun k => m.getD k 0) all (fun k k' hk hk' e => i1.inj hok hk hk' (all k hk).1 e) (i : Int) (by omega) (by omega)
        exact hfree k hk e
      rw [if_pos c, Int.toNat_natCast, ck_some (by omega), ck_some (by omega), ck_some (by omega), ck_some (inI_small (by omega) (by omega))]
      have hrg := hA.rg (i := (nx.getD i 0).toNat) (by omega)
      obtain ⟨k, hkv⟩ : ∃ k : Nat, (a.getD i []).getD (nx.getD i 0).toNat 0 = (k : Int) := ⟨((a.getD i []).getD (nx.getD i 0).toNat 0).toNat, by omega⟩
      rw [hkv] at hrg ⊢
      have hk : k < a.length := by omega
      have hrk : rk a i (k : Int) = nx.getD i 0 := by
        have : rk a i (k : Int) = ix (a.getD i []) (k : Int) := rfl
        omega
      have tset := tot_set (nx := nx) hi hln (nx.getD i 0 + 1)
      rw [ck_some (by omega), Int.toNat_natCast]
      have hmr := i1.mr k hk
      have took : (m.getD k 0 < 0 ∨ rkB b (k : Int) i < rkB b (k : Int) (m.getD k 0).toNat) → (GS a b (m.set k (i : Int)) (nx.set i (nx.getD i 0 + 1)) ∧ (-1 ≤ m.getD k 0 ∧ m.getD k 0 ≤ (t : Int)) ∧ (∀ k', k' < a.length → 0 ≤ m.getD k 0 → (m.set k (i : Int)).getD k' 0 ≠ m.getD k 0) ∧ (∀ i' : Nat, i' < t + 1 → (i' : Int) ≠ m.getD k 0 → ∃ k', k' < a.length ∧ (m.set k (i : Int)).getD k' 0 = (i' : Int)) ∧ ∀ k', k' < a.length → (m.set k (i : Int)).getD k' 0 < ((t + 1 : Nat) : Int)) ∧ (36 - tot (fun j => (nx.set i (nx.getD i 0 + 1)).getD j 0) a.length).toNat < (36 - tot (fun j => nx.getD j 0) a.length).toNat := fun hn => by
        have hg := GS.take hok i1 hi hk hrk hfree hn
        have b2 := tb _ hg.nr
        have me : ∀ j, (m.set k (i : Int)).getD j 0 = if j = k then (i : Int) else m.getD j 0 := fun j => by
          rw [getD_set']
          by_cases e : j = k
          · rw [if_pos ⟨e, by omega⟩, if_pos e]
          · rw [if_neg (fun z => e z.1), if_neg e]
        have h5 := i5 k hk
        refine ⟨⟨hg, by omega, fun k' hk' h0 => ?_, fun i' hi' hne => ?_, fun k' hk' => ?_⟩, by omega⟩
        · rw [me]
          by_cases e : k' = k
          · rw [if_pos e]
            exact fun z => hfree k hk z.symm
          · rw [if_neg e]
            exact fun z => e (i1.inj hok hk hk' h0 z.symm).symm
        · by_cases e : i' = i
          · exact ⟨k, hk, by rw [me, if_pos rfl, e]⟩
          · obtain ⟨k', hk', z⟩ := i4 i' hi' (by omega)
            exact ⟨k', hk', by rw [me, if_neg (fun w => hne (by rw [← z, w]))]; exact z⟩
        · rw [me]
          have := i5 k' hk'
          split <;> omega
      by_cases c2 : m.getD k 0 < 0
      · rw [if_pos c2]
        have := took (.inl c2)
        exact .inl ⟨_, rfl, this.1, this.2⟩
      · rw [if_neg c2, ck_some (by omega), ix_eq, bind_some', ix_eq, bind_some']
        have er : rkB b (k : Int) i = ix (b.getD k []) (i : Int) := by unfold rkB; rw [Int.toNat_natCast]
        have er2 : rkB b (k : Int) (m.getD k 0).toNat = ix (b.getD k []) (m.getD k 0) := by unfold rkB; rw [Int.toNat_natCast, Int.toNat_of_nonneg (by omega)]
        by_cases c3 : ix (b.getD k []) (i : Int) < ix (b.getD k []) (m.getD k 0)
        · rw [if_pos c3]
          have := took (.inr (by rw [er, er2]; exact c3))
          exact .inl ⟨_, rfl, this.1, this.2⟩
        · rw [if_neg c3]
          have hg := GS.stay hok i1 hi hk hrk hfree (by omega) (by rw [er, er2]; exact c3)
          have b2 := tb _ hg.nr
          exact .inl ⟨_, rfl, ⟨hg, i2, i3, i4, i5⟩, by dsimp only; omega⟩
    · rw [if_neg c]
      exact .inr (.inl ⟨_, rfl, _, _, _, rfl, i1, fun i hi => i4 i hi (by omega), i5⟩)) (n := 1000000) (s := (m, nx, ((t : Nat) : Int))) ⟨h, ⟨by dsimp only; omega, by dsimp only; omega⟩, fun k hk _ => by have := hlt k hk; dsimp only; omega, fun i hi hne => hin i (by dsimp only at hne; omega), fun k hk => by have := hlt k hk; dsimp only; omega⟩ (by
      have := tb _ h.nr
      dsimp only
      omega)
  unfold stable_Best_B1
  dsimp only
  rw [e, bind_some']
  exact ⟨m', nx', rfl, r1, r2, r3⟩
/-- what Best tells -/
structure BestS (a b : List (List Int)) (q : List Int) : Prop where
  good : GoodS a b q
  best : ∀ p, StabL a b p → ∀ i, i < a.length → rk a i (q.getD i 0) ≤ rk a i (p.getD i 0)
theorem checkS_ok {a b : List (List Int)} (h : OkS a b) : stable_Check_F a b = some 0 := by
  have n6 := h.n
  have lb := h.lb
  unfold stable_Check_F
  rw [if_neg (by omega), if_neg (by omega), concatS_eq (by omega) (by omega), bind_some']
  have hall : ∀ k, k < (a ++ b).length → PermL a.length ((a ++ b).getD k []) := fun k hk => by
    rw [List.length_append] at hk
    by_cases c : k < a.length
    · rw [app_left c]; exact h.pa k c
    · obtain ⟨j, rfl⟩ : ∃ j, k = a.length + j := ⟨k - a.length, by omega⟩
      rw [app_right]; exact h.pb j (by omega)
  have hloop : forC (stable_Check_B1 a (a ++ b)) (a ++ b).length 0 () = some (.go ()) := forC_all fun j _ hj => by
    have hp := hall j (by omega)
    have hl := hp.len
    unfold stable_Check_B1
    rw [if_neg (by omega)]
    rcases contains_loop (n := ((a ++ b).getD j []).length) (f := stable_Check_B2 (a ++ b) j) (l := (a ++ b).getD j []) (r := .ret 3) (fun k => by unfold stable_Check_B2; rw [contains_eq, bind_some']) with ⟨e, _⟩ | ⟨_, h2⟩
    · rw [e, bind_some']
    · exact absurd (fun k hk => hp.all k (by omega)) h2
  rw [hloop, bind_some']
theorem stable_best {a b : List (List Int)} (hok : OkS a b) : ∃ q, stable_Best_F a b = some (q, 0) ∧ BestS a b q := by
  have n6 := hok.n
  have lb := hok.lb
  have R := hok.ranks
  unfold stable_Best_F
  have hrep := repeat_table ⟨a.length, by omega⟩
  dsimp only at hrep
  rw [checkS_ok hok, bind_some', if_neg (by decide), lb, hrep, bind_some', ck_some (by omega), Int.toNat_natCast]
  obtain ⟨⟨m, nx⟩, e, g, hin, _⟩ := forN_inv (f := stable_Best_B1 a b) (fun t (τ : List Int × List Int) => GS a b τ.1 τ.2 ∧ (∀ i : Nat, i < t → ∃ k, k < a.length ∧ τ.1.getD k 0 = (i : Int)) ∧ ∀ k, k < a.length → τ.1.getD k 0 < (t : Int)) (n := a.length) (k := 0) (s := (List.replicate a.length (-1), List.replicate a.length 0)) ⟨⟨by simp, by simp, fun k hk => by
      dsimp only
      rw [getD_replicate', if_pos hk]; omega, fun i hi => by
      dsimp only
      rw [getD_replicate', if_pos hi]; omega, fun k i hk hi e => by
      dsimp only at e
      rw [getD_replicate', if_pos hk] at e; omega, fun i k hi hk hlt => by
      dsimp only at hlt
      have := hok.rk0 hi hk
      rw [getD_replicate', if_pos hi] at hlt; omega, fun i k hi hk hlt => by
      dsimp only at hlt
      have := hok.rk0 hi hk
      rw [getD_replicate', if_pos hi] at hlt; omega⟩, fun i hi => absurd hi (by omega), fun k hk => by
      dsimp only
      rw [getD_replicate', if_pos hk]; omega⟩ fun t τ _ ht ⟨j1, j2, j3⟩ => by
    obtain ⟨m, nx⟩ := τ
    obtain ⟨m', nx', e, g1, g2, g3⟩ := asks_ok hok (t := t) (by omega) j1 j2 j3
    exact ⟨_, e, g1, g2, g3⟩
  rw [e, bind_some']
  dsimp only at g hin ⊢
  rw [Nat.zero_add] at hin
  have hlm := g.lm
  -- all have one
  have back : ∀ k, k < a.length → ∃ i : Nat, i < a.length ∧ m.getD k 0 = (i : Int) := fun k hk => by
    have hc : ∀ i : Nat, ∃ k, i < a.length → k < a.length ∧ m.getD k 0 = (i : Int) := fun i => by
      by_cases hi : i < a.length
      · obtain ⟨k, z⟩ := hin i hi
        exact ⟨k, fun _ => z⟩
      · exact ⟨0, fun z => absurd z hi⟩
    obtain ⟨f, hf⟩ := Classical.axiomOfChoice hc
    obtain ⟨i, hi, z⟩ := inj_surj a.length f (fun i hi => (hf i hi).1) (fun i j hi hj e => by
      have a1 := (hf i hi).2
      have a2 := (hf j hj).2
      rw [e] at a1
      omega) k hk
    exact ⟨i, hi, by rw [← z]; exact (hf i hi).2⟩
  obtain ⟨q, e2, q1, q2⟩ := forN_inv (f := stable_Best_B3 m) (fun j (l : List Int) => l.length = a.length ∧ ∀ k i : Nat, k < j → i < a.length → m.getD k 0 = (i : Int) → l.getD i 0 = (k : Int)) (n := m.length) (k := 0) (s := List.replicate a.length 0) ⟨by simp, fun k i hk => absurd hk (by omega)⟩ fun j l _ hj ⟨j1, j2⟩ => by
    obtain ⟨o, ho, hoe⟩ := back j (by omega)
    unfold stable_Best_B3
    rw [ck_some (by omega), hoe, Int.toNat_natCast]
    refine ⟨_, rfl, by simpa using j1, fun k i hk hi hki => ?_⟩
    rw [getD_set']
    by_cases ek : k = j
    · subst ek
      rw [if_pos ⟨by omega, by omega⟩]
    · rw [if_neg (fun z => ek (g.inj hok (by omega) (by omega) (by omega) (by rw [hki, hoe, z.1]))) ]
      exact j2 k i (by omega) hi hki
  rw [e2, bind_some']
  have qm : ∀ i, i < a.length → ∃ k : Nat, k < a.length ∧ q.getD i 0 = (k : Int) ∧ m.getD k 0 = (i : Int) := fun i hi => by
    obtain ⟨k, hk, z⟩ := hin i hi
    exact ⟨k, hk, q2 k i (by omega) hi z, z⟩
  have hst : StabL a b q := ⟨fun i hi => by
      obtain ⟨k, hk, z, _⟩ := qm i hi
      try dsimp only
      omega, fun i j hi hj e => by
      obtain ⟨k, hk, z, w⟩ := qm i hi
      obtain ⟨k2, hk2, z2, w2⟩ := qm j hj
      try dsimp only at e
      have : k = k2 := by omega
      subst this
      omega, fun i j hi hj h1 h2 => by
      obtain ⟨k, hk, z, w⟩ := qm i hi
      obtain ⟨k2, hk2, z2, w2⟩ := qm j hj
      try dsimp only at h1 h2
      rw [z, z2] at h1
      rw [z2] at h2
      have a1 := g.had k i hk hi w
      have a2 := (g.asked i k2 hi hk2 (by omega)).2
      rw [w2, Int.toNat_natCast] at a2
      omega⟩
  refine ⟨q, rfl, ⟨hok, checkS_ok hok, PermL.of q1 hst.rg hst.inj, hst⟩, fun p hp i hi => ?_⟩
  refine Int.le_of_not_gt fun hlt => ?_
  obtain ⟨k, hk, z, w⟩ := qm i hi
  have rg := hp.rg i hi
  try dsimp only at rg
  obtain ⟨o, ho⟩ : ∃ o : Nat, p.getD i 0 = (o : Int) := ⟨(p.getD i 0).toNat, by omega⟩
  rw [z, ho] at hlt
  have a1 := g.had k i hk hi w
  exact g.never i o hi (by omega) (by omega) (fun z2 => by
    have := g.had o i (by omega) hi z2
    omega) p hp ho
theorem stable_bad {a b : List (List Int)} (h : ¬ OkS a b) : ∃ e, e ≠ 0 ∧ stable_Best_F a b = some ([], e) := by
  obtain ⟨e, he, h1⟩ := checkS a b
  have hne : e ≠ 0 := by
    rcases h1 with ⟨_, z⟩ | z | z
    · exact absurd z h
    · omega
    · omega
  unfold stable_Best_F
  rw [he, bind_some', if_pos hne]
  exact ⟨e, hne, rfl⟩
end Go.Proofs.Ytlpelkfcmeapiaa
