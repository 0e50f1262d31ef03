/- WalkPlain: the law's function answers true. -/
import Derived.Test.YtmgldjkgneiejaaPwalk
import Derived.Test.YtmgldjkgneiejaaPkeep
import Derived.Test.YtmgldjkgneiejaaKWalkPlain
namespace Go.Proofs.Ytmgldjkgneiejaa
open Go Go.Proofs.Ytmgldjkgneiejaa.Sx
set_option linter.unusedVariables false
set_option linter.unusedSimpArgs false
/-- the arcs of a shortest way: the k-th leads to a node that is k + 1 far -/
structure PathOf (g : Graph) (s t : Int) (far : List Int) (p : List Int) : Prop where
  len : (p.length : Int) = atI far t
  arc : ∀ k, k < p.length → 0 ≤ p.getD k 0 ∧ p.getD k 0 < g.as.length ∧ atI far (g.as.getD (p.getD k 0).toNat El.d).t = k + 1
  last : ∀ k, k + 1 = p.length → (g.as.getD (p.getD k 0).toNat El.d).t = t
theorem path_ok {g : Graph} {s t : Int} {far bys : List Int} (hg : Ok g) (h : Searched g s far bys) (h1 : walk_search_F g s = some (far, bys, 0)) (ht0 : 0 ≤ t) (ht1 : t < g.n) (hp : 0 ≤ atI far t) :
    ∃ p, walk_Path_F g s t = some (p, 0) ∧ PathOf g s t far p := by
  unfold walk_Path_F
  have hn1 := hg.n1
  have hb := h.bd t ht0 ht1
  have hd : far.getD t.toNat 0 = atI far t := rfl
  rw [h1, bind_some']; dsimp only
  rw [if_neg (by simp), if_neg (by omega), if_neg (by omega), ck_some ⟨ht0, by have := h.l1; omega⟩, if_neg (by omega), ck_some ⟨hp, by omega⟩, ck_some (inI_small (by omega) (by omega))]
  have HL : ∃ q, loopC (walk_Path_B1 g bys) 1000000 (t, List.replicate (atI far t).toNat 0, atI far t - 1) = some q ∧ ∃ x p y, q = .go (x, p, y) ∧ PathOf g s t far p := by
   refine loopC_or (f := walk_Path_B1 g bys)
    (fun st => st.2.1.length = (atI far t).toNat ∧ -1 ≤ st.2.2 ∧ st.2.2 < atI far t ∧ 0 ≤ st.1 ∧ st.1 < g.n ∧ atI far st.1 = st.2.2 + 1 ∧
      (∀ k : Nat, st.2.2 < k → k < st.2.1.length → 0 ≤ st.2.1.getD k 0 ∧ st.2.1.getD k 0 < g.as.length ∧ atI far (g.as.getD (st.2.1.getD k 0).toNat El.d).t = k + 1) ∧
      (st.2.2 + 1 = atI far t → st.1 = t) ∧ (st.2.2 + 1 < atI far t → ∀ k, k + 1 = st.2.1.length → (g.as.getD (st.2.1.getD k 0).toNat El.d).t = t))
    (fun q => ∃ x p y, q = .go (x, p, y) ∧ PathOf g s t far p) (fun st => (st.2.2 + 1).toNat) (fun st hI => ?_) (n := 1000000) (s := (t, List.replicate (atI far t).toNat 0, atI far t - 1))
    ⟨by simp, by simp only; omega, by simp only; omega, ht0, ht1, by simp only; omega, fun k h1 h2 => by simp only [List.length_replicate] at h1 h2; omega, fun _ => rfl, fun h => by simp only at h; omega⟩ (by simp only; omega)
   obtain ⟨x, p, i⟩ := st
   simp only at hI
   obtain ⟨i1, i2, i3, i4, i5, i6, i7, i8, i9⟩ := hI
   unfold walk_Path_B1
   by_cases hi : 0 ≤ i
   · left
     obtain ⟨b1, b2, b3, b4⟩ := h.back x i4 i5 (by omega)
     have hb2 : bys.getD x.toNat 0 = atI bys x := rfl
     have ha := hg.arc _ (mem_getD (d := El.d) (show (atI bys x).toNat < g.as.length by omega))
     simp only [if_pos hi]
     rw [ck_some ⟨i4, by have := h.l2; omega⟩, ck_some ⟨hi, by omega⟩, ck_some ⟨by omega, by omega⟩, ck_some (inI_small (by omega) (by omega)), hb2]
     refine ⟨_, rfl, ⟨by simpa using i1, by simp only; omega, by simp only; omega, ha.f0, ha.f1, by simp only; omega, fun k hk1 hk2 => ?_, fun hh => by simp only at hh; omega, fun hh k hk => ?_⟩, by simp only; omega⟩
     · simp only [List.length_set] at hk2 hk1 ⊢
       rw [getD_set']
       by_cases e : k = i.toNat
       · rw [if_pos ⟨e, by omega⟩]
         exact ⟨b1, b2, by rw [b3, i6]; omega⟩
       · rw [if_neg (fun x => e x.1)]
         exact i7 k (by omega) hk2
     · simp only [List.length_set] at hk ⊢
       rw [getD_set']
       by_cases e : k = i.toNat
       · rw [if_pos ⟨e, by omega⟩, b3]
         exact i8 (by omega)
       · rw [if_neg (fun x => e x.1)]
         exact i9 (by omega) k hk
   · right; left
     simp only [if_neg hi]
     refine ⟨_, rfl, x, p, i, rfl, by omega, fun k hk => i7 k (by omega) hk, fun k hk => ?_⟩
     by_cases e : i + 1 < atI far t
     · exact i9 e k hk
     · omega
  obtain ⟨q, e1, e2⟩ := HL
  obtain ⟨x, p, y, rfl, hpp⟩ := e2
  rw [hd, e1]
  exact ⟨p, rfl, hpp⟩
theorem path_line : walk_Path_F ⟨3, [⟨0, 1, 4⟩, ⟨1, 2, 3⟩]⟩ 0 2 = some ([0, 1], 0) := by kernel_rfl
theorem WalkPlain_true (g : Graph) (s t : Int) : weirkeep_WalkPlain_F g s t = some true := by
  unfold weirkeep_WalkPlain_F
  simp only [line_eq, bind_some', path_line, equalInts_eq, ne_eq, not_true_eq_false, if_false, decide_true, Bool.not_true, Bool.false_eq_true]
  rcases search_cases g s with ⟨e, he, h1, _⟩ | ⟨hg, hs0, hs1, far, bys, h1, h2⟩
  · have : walk_Path_F g s t = some ([], e) := by unfold walk_Path_F; rw [h1, bind_some']; dsimp only; rw [if_pos he]
    rw [this, bind_some']; dsimp only; rw [if_pos he]; rfl
  · by_cases ht : t < 0 ∨ g.n ≤ t
    · have : walk_Path_F g s t = some ([], 4) := by
        unfold walk_Path_F
        rw [h1, bind_some']; dsimp only; rw [if_neg (by simp)]
        by_cases h3 : t < 0
        · rw [if_pos h3]
        · rw [if_neg h3, if_pos (by omega)]
      rw [this, bind_some']; dsimp only; rw [if_pos (by omega)]; rfl
    · have ht0 : 0 ≤ t := by omega
      have ht1 : t < g.n := by omega
      by_cases hp : 0 ≤ atI far t
      · obtain ⟨p, e1, e2⟩ := path_ok hg h2 h1 ht0 ht1 hp
        have hb := h2.bd t ht0 ht1
        have hn1 := hg.n1
        have hlen := e2.len
        rw [e1, bind_some']; dsimp only; rw [if_neg (by simp)]
        obtain ⟨seen, f1, f2, f3, f4⟩ := forC_inv (f := weirkeep_WalkPlain_B1 g t p) (fun j st => st.length = j + 1 ∧ (∀ x, x ∈ st → atI far x ≤ j) ∧ (j = 0 → st.getD 0 0 = s) ∧ (0 < j → st.getD j 0 = (g.as.getD (p.getD (j - 1) 0).toNat El.d).t)) (n := p.length) (k := 0) (s := [s])
          ⟨rfl, fun x hx => by have : x = s := by simpa using hx
                               subst this; have := h2.s0; omega, fun _ => rfl, fun h => absurd h (by omega)⟩ fun j st _ hj ⟨i1, i2, i3, i4⟩ => by
            obtain ⟨b1, b2, b3⟩ := e2.arc j (by omega)
            unfold weirkeep_WalkPlain_B1
            rw [if_neg (by omega), if_neg (by omega), ck_some ⟨b1, b2⟩, contains_eq, bind_some']
            have hnot : ¬ (g.as.getD (p.getD j 0).toNat El.d).t ∈ st := fun hm => by have := i2 _ hm; omega
            rw [decide_eq_false hnot, if_neg (by simp), ck_some (by omega)]
            refine ⟨_, rfl, by simp [i1], fun x hx => ?_, fun h => absurd h (by omega), fun _ => ?_⟩
            · rcases List.mem_append.1 hx with hx | hx
              · have := i2 x hx; omega
              · have : x = (g.as.getD (p.getD j 0).toNat El.d).t := by simpa using hx
                subst this; omega
            · rw [List.getD_eq_getElem?_getD, List.getElem?_append_right (by omega), i1]; simp
        rw [f1, bind_some']; dsimp only
        simp only [Nat.zero_add] at f2 f3 f4
        rw [ck_some (inI_small (by omega) (by omega)), ck_some ⟨by omega, by omega⟩]
        rw [decide_eq_true]
        rw [show ((seen.length : Int) - 1).toNat = p.length by omega]
        by_cases h0 : p.length = 0
        · rw [h0, f4.1 h0]
          have hz : atI far t = 0 := by omega
          have w := h2.way t ht0 ht1 hp
          rw [hz] at w
          cases w with
          | nil => rfl
        · rw [f4.2 (by omega)]
          exact e2.last (p.length - 1) (by omega)
      · have : walk_Path_F g s t = some ([], 5) := by
          unfold walk_Path_F
          have hd : far.getD t.toNat 0 = atI far t := rfl
          rw [h1, bind_some']; dsimp only
          rw [if_neg (by simp), if_neg (by omega), if_neg (by omega), ck_some ⟨ht0, by have := h2.l1; omega⟩, if_pos (by omega)]
        rw [this, bind_some']; dsimp only; rw [if_pos (by omega)]; rfl
end Go.Proofs.Ytmgldjkgneiejaa
