/- CloseGrows: the law's function answers true. -/
import Derived.Test.YtdjllkoljpjohaaPclose
import Derived.Test.YtdjllkoljpjohaaPref
import Derived.Test.YtdjllkoljpjohaaKCloseGrows
namespace Go.Proofs.Ytdjllkoljpjohaa
open Go Go.Proofs.Ytdjllkoljpjohaa.Sx
set_option linter.unusedVariables false
set_option linter.unusedSimpArgs false
theorem closesG_eq : weirkeep_closes_F = some true := by kernel_rfl
theorem gainS_more {gain more : List Int} {k : Nat} {b : Int} (hk : k < gain.length) (hm : more = gain.set k (gain.getD k 0 + b)) (S : Int → Int) : gainS more S = gainS gain S + S (k : Int) * b := by
  have hl : more.length = gain.length := by rw [hm]; simp
  unfold gainS
  rw [hl]
  have e : tot (fun i => S (i : Int) * more.getD i 0) gain.length = tot (fun i => S (i : Int) * gain.getD i 0 + if i = k then S (k : Int) * b else 0) gain.length := tot_congr fun i hi => by
    rw [hm, getD_set']
    by_cases e : i = k
    · rw [if_pos ⟨e, hk⟩, if_pos e, e, Int.mul_add]
    · rw [if_neg (fun z => e z.1), if_neg e]; omega
  rw [e, tot_add, tot_single hk (fun i _ hi => if_neg hi), if_pos rfl]
/-- both, and either -/
def meetS (S T : Int → Int) : Int → Int := fun x => if S x = 1 ∧ T x = 1 then 1 else 0
def joinS (S T : Int → Int) : Int → Int := fun x => if S x = 1 ∨ T x = 1 then 1 else 0
theorem meet01 (S T : Int → Int) (x : Int) : meetS S T x = 0 ∨ meetS S T x = 1 := by unfold meetS; split <;> simp
theorem join01 (S T : Int → Int) (x : Int) : joinS S T x = 0 ∨ joinS S T x = 1 := by unfold joinS; split <;> simp
theorem gain_modular (gain : List Int) {S T : Int → Int} (hS : ∀ y, S y = 0 ∨ S y = 1) (hT : ∀ y, T y = 0 ∨ T y = 1) : gainS gain (meetS S T) + gainS gain (joinS S T) = gainS gain S + gainS gain T := by
  unfold gainS
  rw [← tot_add, ← tot_add]
  refine tot_congr fun k _ => ?_
  rw [← Int.add_mul, ← Int.add_mul]
  congr 1
  unfold meetS joinS
  rcases hS (k : Int) with p | p <;> rcases hT (k : Int) with q | q <;> simp [p, q]
theorem CloseGrows_true (gain : List Int) (l : List Arc) (k b : Int) : weirkeep_CloseGrows_F gain l k b = some true := by
  unfold weirkeep_CloseGrows_F
  rw [closesG_eq, bind_some', if_neg (by decide)]
  rcases closeCheck_cases gain l with ⟨h, _⟩ | ⟨_, e, he, h1, _⟩
  · obtain ⟨s, x, e1, hB, x0, x1⟩ := best_ok h
    have hn := h.n
    rw [e1, bind_some']
    dsimp only
    rw [if_neg (by decide)]
    by_cases hz : ((gain.length : Nat) : Int) = 0
    · rw [if_pos hz]
      have : x = 0 := by
        rw [← hB.gain_]
        unfold gainS
        rw [show gain.length = 0 by omega]; rfl
      exact congrArg some (decide_eq_true this)
    rw [if_neg hz]
    obtain ⟨r, er, r0, r1⟩ := rest_ok (n := k) (m := (gain.length : Int)) (by omega) (by omega)
    obtain ⟨m, em, m0, m1⟩ := rest_ok (n := b) (m := 500) (by omega) (by omega)
    have hg := h.gr r.toNat (by omega)
    have hclone : slices_Clone_int_F gain = some gain := by unfold slices_Clone_int_F; rw [ck_some (by omega)]; rfl
    rw [er, bind_some', em, bind_some', hclone, bind_some', ck_some (by omega), ck_some (inI_small (by omega) (by omega))]
    generalize hmore : gain.set r.toNat (gain.getD r.toNat 0 + m) = more
    have hml : more.length = gain.length := by rw [← hmore]; simp
    rcases closeCheck_cases more l with ⟨h2, _⟩ | ⟨_, e, he, hc2, _, hc4⟩
    · obtain ⟨t, y, e2, hB2, y0, y1⟩ := best_ok h2
      rw [e2, bind_some']
      dsimp only
      rw [if_neg (by decide)]
      have hgm := fun S => gainS_more (gain := gain) (more := more) (k := r.toNat) (b := m) (by omega) hmore.symm S
      have hrr : ((r.toNat : Nat) : Int) = r := by omega
      rw [hrr] at hgm
      have bs : ∀ S : Int → Int, (∀ z, S z = 0 ∨ S z = 1) → 0 ≤ S r * m ∧ S r * m ≤ m := fun S hS => by
        rcases hS r with q | q <;> rw [q] <;> omega
      have s1 := hB2.most (bit s) (bit01 s) hB.shut
      rw [hgm, hB.gain_] at s1
      have bss := bs _ (bit01 s)
      have s2 := hB.most (bit t) (bit01 t) hB2.shut
      have s3 := hB2.gain_
      rw [hgm] at s3
      have bst := bs _ (bit01 t)
      have sub : bitsOf .and .u16 t s = s := by
        refine bits_ext (n := gain.length) (by omega) ?_ hB.hi fun z hz0 hz1 => ?_
        · have := hB2.hi
          rw [hml] at this
          exact hi_and (by omega) this hB.hi
        · rw [bit_and _ _ hz0 (by omega)]
          refine ⟨fun h => h.2, fun hs => ⟨?_, hs⟩⟩
          have hmod := gain_modular gain (bit01 s) (bit01 t)
          have c1 : Shut l (meetS (bit s) (bit t)) := fun a ha hf => by
            unfold meetS at hf ⊢
            by_cases q : bit s a.f = 1 ∧ bit t a.f = 1
            · rw [if_pos ⟨hB.shut a ha q.1, hB2.shut a ha q.2⟩]
            · rw [if_neg q] at hf; omega
          have c2 : Shut l (joinS (bit s) (bit t)) := fun a ha hf => by
            unfold joinS at hf ⊢
            by_cases q : bit s a.f = 1 ∨ bit t a.f = 1
            · rw [if_pos (q.imp (hB.shut a ha) (hB2.shut a ha))]
            · rw [if_neg q] at hf; omega
          have d1 := hB.most _ (meet01 (bit s) (bit t)) c1
          have d2 := hB2.most _ (join01 (bit s) (bit t)) c2
          rw [hgm] at d2
          have d3 : bit t r * m ≤ joinS (bit s) (bit t) r * m := by
            refine Int.mul_le_mul_of_nonneg_right ?_ m0
            unfold joinS
            rcases bit01 t r with q | q
            · rw [q]; split <;> omega
            · rw [if_pos (.inr q), q]; omega
          have d4 := hB.gain_
          have d5 : gainS gain (meetS (bit s) (bit t)) = x := by omega
          have d6 := hB.least _ (meet01 (bit s) (bit t)) c1 d5 z hz0 (by omega) hs
          unfold meetS at d6
          by_cases q : bit s z = 1 ∧ bit t z = 1
          · exact q.2
          · rw [if_neg q] at d6; omega
      have hxy : x ≤ y := by omega
      have hyx : y ≤ x + m := by omega
      rw [if_pos hxy, ck_some (inI_small (by omega) (by omega)), if_pos hyx, ck_some r0, bit_fold]
      by_cases q : bit s r = 0
      · rw [if_pos q]
        exact congrArg some (decide_eq_true sub)
      · have q1 := (bit01 s r).resolve_left q
        rw [q1] at s1
        rw [if_neg q, if_pos (by omega)]
        exact congrArg some (decide_eq_true sub)
    · have he1 : e = 1 := Classical.byContradiction fun hne => hc4 hne ⟨by rw [hml]; exact h.n, h.len, fun a ha => by rw [hml]; exact h.arc a ha⟩
      subst he1
      rw [best_bad (by decide) hc2, bind_some']
      dsimp only
      rw [if_pos (by decide)]; rfl
  · have he0 : e ≠ 0 := by omega
    rw [best_bad he0 h1, bind_some']
    dsimp only
    rw [if_pos he0]; rfl
end Go.Proofs.Ytdjllkoljpjohaa
