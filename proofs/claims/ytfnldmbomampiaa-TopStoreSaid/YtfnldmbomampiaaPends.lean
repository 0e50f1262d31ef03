/- Package repair: what each change answers; Ends goes on from the rounds that are left where the ends are others. -/
import Derived.Test.YtfnldmbomampiaaPdrop
namespace Go.Proofs.Ytfnldmbomampiaa
open Go Go.Proofs.Ytfnldmbomampiaa.Sx
set_option linter.unusedVariables false
set_option linter.unusedSimpArgs false
/-- so much goes, and no more can -/
structure Goes (n : Net) (f : List Int) (v : Int) : Prop where
  flow : Flow n f
  val : netAt n.as f n.s = v
  max : MaxV n v
theorem Goes.max' {n : Net} {f : List Int} {v : Int} (h : Goes n f v) : MaxV n (netAt n.as f n.s) := by rw [h.val]; exact h.max
/-- an error, or what goes on -/
def Ans (x : Option (Net × List Int × Int × Int)) : Prop := (∃ e, e ≠ 0 ∧ x = some (⟨0, 0, 0, []⟩, [], 0, e)) ∨ ∃ m g w, x = some (m, g, w, 0) ∧ Goes m g w
theorem ans_cap {n : Net} {f : List Int} {v : Int} (h : Goes n f v) (k takes : Int) : Ans (repair_Cap_F n f k takes) := by
  have hc := repair_check h.flow h.max'
  by_cases c1 : k < 0
  · left; refine ⟨5, by decide, ?_⟩
    unfold repair_Cap_F
    rw [hc, bind_some', if_neg (by decide), if_pos c1]
  by_cases c2 : ((n.as.length : Nat) : Int) ≤ k
  · left; refine ⟨5, by decide, ?_⟩
    unfold repair_Cap_F
    rw [hc, bind_some', if_neg (by decide), if_neg c1, if_pos c2]
  by_cases c3 : takes < 0
  · left; refine ⟨1, by decide, ?_⟩
    unfold repair_Cap_F
    rw [hc, bind_some', if_neg (by decide), if_neg c1, if_neg c2, if_pos c3]
  by_cases c4 : 10000 < takes
  · left; refine ⟨1, by decide, ?_⟩
    unfold repair_Cap_F
    rw [hc, bind_some', if_neg (by decide), if_neg c1, if_neg c2, if_neg c3, if_pos c4]
  right
  obtain ⟨k', rfl⟩ : ∃ k' : Nat, k = (k' : Int) := ⟨k.toNat, by omega⟩
  obtain ⟨g, w, e, h1, h2, h3⟩ := repair_cap h.flow h.max' (k := k') (by omega) (takes := takes) (by omega) (by omega)
  exact ⟨_, _, _, e, h1, h2, h3⟩
theorem ans_add {n : Net} {f : List Int} {v : Int} (h : Goes n f v) (a : Arc) : Ans (repair_Add_F n f a) := by
  by_cases ha : OkNet (addN n a)
  · obtain ⟨g, w, e, h1, h2, h3⟩ := repair_add h.flow h.max' ha
    exact .inr ⟨_, _, _, e, h1, h2, h3⟩
  · exact .inl (repair_addBad h.flow h.max' ha)
theorem ans_drop {n : Net} {f : List Int} {v : Int} (h : Goes n f v) (k : Int) : Ans (repair_Drop_F n f k) := by
  have hc := repair_check h.flow h.max'
  by_cases c1 : 0 ≤ k ∧ k < ((n.as.length : Nat) : Int)
  · obtain ⟨k', rfl⟩ : ∃ k' : Nat, k = (k' : Int) := ⟨k.toNat, by omega⟩
    obtain ⟨g, w, e, h1, h2, h3, _⟩ := repair_drop h.flow h.max' (k := k') (by omega)
    exact .inr ⟨_, _, _, e, h1, h2, h3⟩
  · left
    have e : repair_Cap_F n f k 0 = some (⟨0, 0, 0, []⟩, [], 0, 5) := by
      unfold repair_Cap_F
      by_cases c2 : k < 0
      · rw [hc, bind_some', if_neg (by decide), if_pos c2]
      · rw [hc, bind_some', if_neg (by decide), if_neg c2, if_pos (by omega)]
    refine ⟨5, by decide, ?_⟩
    unfold repair_Drop_F
    rw [e, bind_some']
    dsimp only
    rw [if_pos (by decide)]
def endsN (n : Net) (s t : Int) : Net := ⟨n.n, s, t, n.as⟩
theorem ans_ends {n : Net} {f : List Int} {v : Int} (h : Goes n f v) (s t : Int) : Ans (repair_Ends_F n f s t) := by
  have hf := h.flow
  have hn := hf.net
  have hm := hn.g.len
  dsimp only at hm
  have hfl := hf.len
  have hc := repair_check hf h.max'
  rcases checkNet_cases (endsN n s t) with ⟨ht, e0⟩ | ⟨_, e, he, e0⟩
  · right
    obtain ⟨ways, rounds, es, hS⟩ := split_ok hf (h.max'.nonneg hn)
    have hw1 : ∀ p, p ∈ ways → 1 ≤ p.amount := fun p hp => (hS.ws p hp).a1
    have hr1 : ∀ p, p ∈ rounds → 1 ≤ p.amount := fun p hp => let ⟨_, hb⟩ := hS.rs p hp; hb.a1
    have top : ∀ i, i < n.as.length → amtL rounds i ≤ f.getD i 0 ∧ f.getD i 0 ≤ 10000 ∧ f.getD i 0 ≤ (n.as.getD i El.d).c := fun i hi => by
      have a1 := hS.sum i hi
      have a2 := (amtL_ge hw1 i).1
      have a3 := hf.r i (by omega)
      have a4 := (hn.arc hi).c1
      omega
    have parts : ∀ j i, 0 ≤ amtL (rounds.take j) i ∧ amtL (rounds.take j) i ≤ amtL rounds i := fun j i => by
      have a1 := (amtL_ge (ps := rounds.take j) (fun p hp => hr1 p (List.mem_of_mem_take hp)) i).1
      have a2 := (amtL_ge (ps := rounds.drop j) (fun p hp => hr1 p (List.mem_of_mem_drop hp)) i).1
      have a3 := amtL_app (rounds.take j) (rounds.drop j) i
      rw [List.take_append_drop] at a3
      omega
    have z0 : ∀ i, (List.replicate n.as.length (0 : Int)).getD i 0 = 0 := fun i => by
      simp only [List.getD_eq_getElem?_getD, List.getElem?_replicate]
      split <;> rfl
    obtain ⟨g, eg, g1, g2, g3⟩ := forN_inv (f := repair_Ends_B1 rounds) (fun j (l : List Int) => l.length = n.as.length ∧ (∀ i, i < n.as.length → l.getD i 0 = amtL (rounds.take j) i) ∧ ∀ z, netAt n.as l z = 0) (n := rounds.length) (k := 0) (s := List.replicate n.as.length (0 : Int)) ⟨by simp, fun i _ => by rw [z0]; simp [amtL], fun z => tot_zero fun k _ => by
        unfold term
        rw [z0]; split <;> split <;> rfl⟩ fun j l _ hj ⟨i1, i2, i3⟩ => by
      have hj' : j < rounds.length := by omega
      have hmem := mem_getD (d := (El.d : Piece)) hj'
      obtain ⟨b, hp⟩ := hS.rs _ hmem
      have htake : rounds.take (j + 1) = rounds.take j ++ [rounds.getD j El.d] := by
        rw [List.take_add_one, List.getElem?_eq_getElem hj']
        simp [List.getD_eq_getElem?_getD, hj']
      generalize hpj : rounds.getD j El.d = p at hp hmem htake
      obtain ⟨l', e, k1, k2, k3⟩ := chain_sub (f := repair_Ends_B2 rounds j) (c := -p.amount) i1 hp.ch fun i m hi hm2 hmi => by
        have hr := hp.ch.rg i hi
        have hin := inA_of hi hr.1
        have b1 := (amtL_ge hr1 (p.arcs.getD i 0).toNat).2 p hmem
        rw [hin, Int.mul_one] at b1
        have b2 := top (p.arcs.getD i 0).toNat (by omega)
        have b3 := parts j (p.arcs.getD i 0).toNat
        have b4 := i2 (p.arcs.getD i 0).toNat (by omega)
        have b5 := hp.a1
        unfold repair_Ends_B2
        rw [show rounds.getD j El.d = p from hpj, ck_some (by omega), ck_some (inI_small (by omega) (by omega)), Int.sub_neg]
      refine ⟨l', ?_, k1, fun i hi => ?_, fun z => ?_⟩
      · unfold repair_Ends_B1
        rw [show rounds.getD j El.d = p from hpj, e, bind_some']
      · rw [k2 i hi, htake, amtL_snoc, i2 i hi, Int.neg_mul, Int.sub_neg]
      · rw [k3 z, i3 z, Int.sub_self, Int.mul_zero, Int.sub_zero]
    rw [Nat.zero_add, List.take_length] at g2
    have hF : Flow (endsN n s t) g := ⟨ht, g1, fun i hi => by
      have a1 := top i (by omega)
      have a2 := parts rounds.length i
      rw [List.take_length] at a2
      have a3 := g2 i (by omega)
      show 0 ≤ g.getD i 0 ∧ g.getD i 0 ≤ (n.as.getD i El.d).c
      omega, fun x _ _ _ => g3 x⟩
    obtain ⟨o, w, eo, o1, o2, o3⟩ := repair_on hF
    refine ⟨_, _, _, ?_, o1, o2, o3⟩
    have e0' : graph_CheckNet_F (⟨n.n, s, t, n.as⟩ : Net) = some 0 := e0
    have eo' : repair_on_F (⟨n.n, s, t, n.as⟩ : Net) g = some (endsN n s t, o, w, 0) := eo
    unfold repair_Ends_F
    rw [hc, bind_some', if_neg (by decide), e0', bind_some', if_neg (by decide), es, bind_some']
    dsimp only
    rw [ck_some (by omega), Int.toNat_natCast, hfl, eg, bind_some', eo', bind_some']
  · left; refine ⟨e, he, ?_⟩
    have e0' : graph_CheckNet_F (⟨n.n, s, t, n.as⟩ : Net) = some e := e0
    unfold repair_Ends_F
    rw [hc, bind_some', if_neg (by decide), e0', bind_some', if_pos he]
end Go.Proofs.Ytfnldmbomampiaa
