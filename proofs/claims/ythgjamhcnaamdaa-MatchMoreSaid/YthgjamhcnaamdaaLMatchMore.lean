/- MatchMore: the law's function answers true. -/
import Derived.Test.YthgjamhcnaamdaaPkuhn
import Derived.Test.YthgjamhcnaamdaaKMatchMore
namespace Go.Proofs.Ythgjamhcnaamdaa
open Go Go.Proofs.Ythgjamhcnaamdaa.Sx
set_option linter.unusedVariables false
set_option linter.unusedSimpArgs false
theorem matesM_ok : weirkeep_mates_F = some true := by kernel_rfl
theorem swapped_built {l : List Arc} (hl : l.length ≤ 60) : ∃ o, forN (weirkeep_MatchMore_B1 l) l.length 0 [] = some o ∧ o.length = l.length ∧ ∀ k, k < l.length → o.getD k El.d = ⟨(l.getD k El.d).t, (l.getD k El.d).f, 0⟩ := by
  obtain ⟨o, e, h1, h2⟩ := forN_inv (f := weirkeep_MatchMore_B1 l) (fun j o => o.length = j ∧ ∀ k, k < j → o.getD k El.d = ⟨(l.getD k El.d).t, (l.getD k El.d).f, 0⟩) (n := l.length) (k := 0) (s := []) ⟨rfl, fun k hk => absurd hk (by omega)⟩ fun j o _ hj ⟨i1, i2⟩ => by
    unfold weirkeep_MatchMore_B1
    rw [ck_some (by omega)]
    refine ⟨_, rfl, by simp [i1], fun k hk => ?_⟩
    by_cases z : k = j
    · subst z
      rw [List.getD_eq_getElem?_getD, List.getElem?_append_right (by omega), i1]
      simp
    · rw [List.getD_eq_getElem?_getD, List.getElem?_append_left (by omega), ← List.getD_eq_getElem?_getD]
      exact i2 k (by omega)
  rw [Nat.zero_add] at h1 h2
  exact ⟨o, e, h1, h2⟩
theorem Cov.swap {l o : List Arc} (hl : o.length = l.length) (h : ∀ k, k < l.length → o.getD k El.d = ⟨(l.getD k El.d).t, (l.getD k El.d).f, 0⟩) {A B : Nat → Int} (hc : Cov l A B) : Cov o B A :=
  ⟨hc.b, hc.a, fun e he => by
    obtain ⟨k, hk, q⟩ := getD_of_mem (d := El.d) he
    rw [hl] at hk
    rw [← q, h k hk]
    exact (hc.c _ (mem_getD (d := El.d) hk)).symm⟩
theorem Cov.unswap {l o : List Arc} (hl : o.length = l.length) (h : ∀ k, k < l.length → o.getD k El.d = ⟨(l.getD k El.d).t, (l.getD k El.d).f, 0⟩) {A B : Nat → Int} (hc : Cov o A B) : Cov l B A :=
  ⟨hc.b, hc.a, fun e he => by
    obtain ⟨k, hk, q⟩ := getD_of_mem (d := El.d) he
    have := hc.c _ (mem_getD (d := El.d) (show k < o.length by omega))
    rw [h k hk, q] at this
    exact this.symm⟩
theorem getD_appL {l : List Arc} {a : Arc} {k : Nat} (hk : k < l.length) : (l ++ [a]).getD k El.d = l.getD k El.d := by
  rw [List.getD_eq_getElem?_getD, List.getElem?_append_left hk, ← List.getD_eq_getElem?_getD]
theorem mat_more {m n : Int} {l : List Arc} {a : Arc} {mate : List Int} (h : MV n.toNat l mate) : MV n.toNat (l ++ [a]) mate ∧ ∀ x, cntM (l ++ [a]) mate n.toNat x = cntM l mate n.toNat x := by
  refine ⟨⟨h.len, fun y hy => ?_⟩, fun x => tot_congr fun y hy => ?_⟩
  · rcases h.v y hy with q | ⟨q1, q2, q3⟩
    · exact .inl q
    · exact .inr ⟨q1, by rw [List.length_append]; show _ < ((l.length + 1 : Nat) : Int); omega, by rw [getD_appL (by omega)]; exact q3⟩
  · rcases h.v y hy with q | ⟨q1, q2, q3⟩
    · rw [if_neg (fun z => by have := z.1; omega), if_neg (fun z => by have := z.1; omega)]
    · unfold par; rw [getD_appL (by omega)]
theorem MatchMore_true (m n : Int) (l : List Arc) (a : Arc) (hl : l.length + 1 ≤ 5864062014805) : weirkeep_MatchMore_F m n l a = some true := by
  unfold weirkeep_MatchMore_F
  have ecl : slices_Clone_Arc_F l = some l := by
    unfold slices_Clone_Arc_F
    rw [ck_some (by omega)]; rfl
  rw [matesM_ok, bind_some', if_neg (by decide)]
  rcases most_pairs m n l with ⟨hP, p, mate, e, _, hM, hsz, hb⟩ | ⟨_, er, he, _, e⟩
  · rw [e, bind_some']
    dsimp only
    rw [ecl, bind_some', ck_some hl]
    have hlen := hP.len
    obtain ⟨o, eo, ol, oa⟩ := swapped_built hlen
    have hPo : OkP n m o := ⟨hP.n0, hP.n1, hP.m0, hP.m1, by omega, fun x hx => by
      obtain ⟨k, hk, q⟩ := getD_of_mem (d := El.d) hx
      have := hP.arc _ (mem_getD (d := El.d) (show k < l.length by omega))
      rw [← q, oa k (by omega)]
      exact ⟨this.2.2.1, this.2.2.2, this.1, this.2.1⟩⟩
    rcases most_pairs n m o with ⟨_, r, mr, eR, _, _, _, hbr⟩ | ⟨hbad, _⟩
    · have hsame : (r.length : Int) = (p.length : Int) := by
        obtain ⟨A, B, c1, c2⟩ := hb.cov
        obtain ⟨A', B', c1', c2'⟩ := hbr.cov
        have q1 := hbr.le hPo (c1.swap ol oa)
        have q2 := hb.le hP (c1'.unswap ol oa)
        omega
      have rest : ∀ (q : List Int) (w : Int), (w = 0 → OkP m n (l ++ [a]) ∧ BestM m n (l ++ [a]) (q.length : Int)) → (if (0 : Int) ≠ 0 then some (decide (((p.length : Nat) : Int) = 0)) else (forN (weirkeep_MatchMore_B1 l) l.length 0 []).bind fun l31 => (match_Most_F n m l31).bind fun (r39, r41) => if r41 = 0 then if ((r39.length : Nat) : Int) = ((p.length : Nat) : Int) then if w ≠ 0 then some true else if ((p.length : Nat) : Int) ≤ ((q.length : Nat) : Int) then ck (InI (((p.length : Nat) : Int) + 1)) (some (decide (((q.length : Nat) : Int) ≤ (((p.length + 1) : Nat) : Int)))) else some false else some false else some false) = some true := fun q w hq => by
        rw [if_neg (by decide), eo, bind_some', eR, bind_some']
        dsimp only
        rw [if_pos rfl, if_pos hsame]
        by_cases c : w = 0
        · obtain ⟨hP2, hb2⟩ := hq c
          have g1 : ((p.length : Nat) : Int) ≤ ((q.length : Nat) : Int) := by
            obtain ⟨mt, m1, m2, m3⟩ := hb.mat
            obtain ⟨k1, k2⟩ := mat_more (a := a) (m := m) m1
            rw [← m3]
            exact hb2.ge hP2 k1 fun x hx => by rw [k2]; exact m2 x hx
          have g2 : ((q.length : Nat) : Int) ≤ ((p.length : Nat) : Int) + 1 := by
            obtain ⟨A, B, c1, c2⟩ := hb.cov
            have haf := hP2.arc a (by simp)
            have hc2 : Cov (l ++ [a]) (fun x => if x = a.f.toNat then 1 else A x) B := ⟨fun x => by
              split
              · exact .inr rfl
              · exact c1.a x, c1.b, fun e he => by
              rcases List.mem_append.1 he with h | h
              · rcases c1.c e h with q | q
                · left
                  split
                  · rfl
                  · exact q
                · exact .inr q
              · rw [List.mem_singleton.1 h]; exact .inl (if_pos rfl)⟩
            have := hb2.le hP2 hc2
            have e1 : tot (fun x => if x = a.f.toNat then 1 else A x) m.toNat ≤ tot A m.toNat + 1 := by
              have q1 := tot_le (f := fun x => if x = a.f.toNat then 1 else A x) (g := fun x => A x + if x = a.f.toNat then 1 else 0) (n := m.toNat) fun x _ => by
                have := c1.a x
                by_cases z : x = a.f.toNat
                · rw [if_pos z, if_pos z]; omega
                · rw [if_neg z, if_neg z]; omega
              rw [tot_add, tot_single (f := fun x => if x = a.f.toNat then (1 : Int) else 0) (k := a.f.toNat) (by omega) fun x _ hx => if_neg hx, if_pos rfl] at q1
              exact q1
            omega
          have hpb := hP.n1
          have := sizeM_b mate n.toNat
          rw [if_neg (fun z => z c), if_pos g1, ck_some (inI_small (by omega) (by omega))]
          exact congrArg some (decide_eq_true (by omega))
        · rw [if_pos c]
      rcases most_pairs m n (l ++ [a]) with ⟨hP2, q, mq, eq, _, _, _, hbq⟩ | ⟨_, er, he, _, eq⟩
      · rw [eq, bind_some']
        exact rest q 0 fun _ => ⟨hP2, hbq⟩
      · rw [eq, bind_some']
        exact rest [] er fun z => absurd z he
    · exact absurd hPo hbad
  · rw [e, bind_some']
    dsimp only
    rw [ecl, bind_some', ck_some hl]
    rcases most_pairs m n (l ++ [a]) with ⟨_, q, mq, eq, _⟩ | ⟨_, er2, he2, _, eq⟩
    · rw [eq, bind_some']
      dsimp only
      rw [if_pos he]; rfl
    · rw [eq, bind_some']
      dsimp only
      rw [if_pos he]; rfl
end Go.Proofs.Ythgjamhcnaamdaa
