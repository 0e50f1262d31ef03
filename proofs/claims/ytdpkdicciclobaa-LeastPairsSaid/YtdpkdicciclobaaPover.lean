/- What parts two nodes, as a law of sets. -/
import Derived.Test.YtdpkdicciclobaaPgomory
import Derived.Test.YtdpkdicciclobaaPpairs
namespace Go.Proofs.Ytdpkdicciclobaa
open Go Go.Proofs.Ytdpkdicciclobaa.Sx
set_option linter.unusedVariables false
set_option linter.unusedSimpArgs false
/-! ### what parts two, as a law of sets -/
def indS (X : Nat → Bool) (x : Int) : Int := if X x.toNat = true then 1 else 0
theorem indS01 (X : Nat → Bool) (x : Int) : indS X x = 0 ∨ indS X x = 1 := by unfold indS; split <;> omega
theorem indS_eq {S : Int → Int} (hb : ∀ x, S x = 0 ∨ S x = 1) {x : Int} (hx : 0 ≤ x) : indS (fun x => decide (S (x : Int) = 1)) x = S x := by
  have e : ((x.toNat : Nat) : Int) = x := by omega
  show (if decide (S ((x.toNat : Nat) : Int) = 1) = true then (1 : Int) else 0) = S x
  rw [e]
  rcases hb x with q | q <;> rw [q] <;> simp
def overG (g : Graph) (X : Nat → Bool) : Int := lsA (across (indS X)) g.as
theorem lsA_congr {f h : Arc → Int} : ∀ {l : List Arc}, (∀ a, a ∈ l → f a = h a) → lsA f l = lsA h l
  | [], _ => rfl
  | a :: l, e => by rw [lsA, lsA, e a (by simp), lsA_congr fun b hb => e b (by simp [hb])]
theorem lsA_le4 {f1 f2 f3 f4 : Arc → Int} : ∀ {l : List Arc}, (∀ a, a ∈ l → f1 a + f2 a ≤ f3 a + f4 a) → lsA f1 l + lsA f2 l ≤ lsA f3 l + lsA f4 l
  | [], _ => Int.le_refl _
  | a :: l, e => by
    have h1 := e a (by simp)
    have h2 := lsA_le4 (l := l) fun b hb => e b (by simp [hb])
    simp only [lsA]; omega
theorem across_term (x y z w : Bool) {c : Int} (hc : 0 ≤ c) : (if (if (x && !z) = true then (1 : Int) else 0) = (if (y && !w) = true then 1 else 0) then 0 else c) + (if (if (z && !x) = true then (1 : Int) else 0) = (if (w && !y) = true then 1 else 0) then 0 else c) ≤
    (if (if x = true then (1 : Int) else 0) = (if y = true then 1 else 0) then 0 else c) + (if (if z = true then (1 : Int) else 0) = (if w = true then 1 else 0) then 0 else c) := by
  cases x <;> cases y <;> cases z <;> cases w <;> simp <;> omega
theorem across_posi {X Z : Nat → Bool} {a : Arc} (hc : 0 ≤ a.c) : across (indS fun x => X x && !Z x) a + across (indS fun x => Z x && !X x) a ≤ across (indS X) a + across (indS Z) a :=
  across_term (X a.f.toNat) (X a.t.toNat) (Z a.f.toNat) (Z a.t.toNat) hc
def lamF (g : Graph) (s t : Nat) : Int := match pairs_Part_F g (s : Int) (t : Int) with | some (v, _) => v | none => 0
theorem lam_max {g : Graph} (h : OkP g) {s t : Nat} (hs : s < g.n.toNat) (ht : t < g.n.toNat) (hne : s ≠ t) : pairs_Part_F g (s : Int) (t : Int) = some (lamF g s t, 0) ∧ MaxV (bothN g (s : Int) (t : Int)) (lamF g s t) := by
  obtain ⟨v, e, hM⟩ := part_ok h (bothN_ok h (s := (s : Int)) (t := (t : Int)) (by omega) (by omega) (by omega) (by omega) (by omega))
  have : lamF g s t = v := by unfold lamF; rw [e]
  rw [this]; exact ⟨e, hM⟩
theorem lam_same (g : Graph) (s : Nat) : lamF g s s = lamF g s s := rfl
theorem cuts_ok {g : Graph} (h : OkP g) : Cuts g.n.toNat (overG g) (fun s t => if s = t then 0 else lamF g s t) := by
  have c0 : ∀ a, a ∈ g.as → 0 ≤ a.c := fun a ha => (h.ok.arc a ha).c0
  refine ⟨fun X s t hs ht x1 x2 => ?_, fun s t hs ht hne => ?_, fun s t hs ht => ?_, fun X Z => lsA_le4 fun a ha => across_posi (c0 a ha)⟩
  · have hne : s ≠ t := fun z => by rw [z, x2] at x1; cases x1
    rw [if_neg hne]
    have hc : Cut (bothN g (s : Int) (t : Int)) (indS X) := ⟨by show indS X (s : Int) = 1; unfold indS; rw [Int.toNat_natCast, if_pos x1], by show indS X (t : Int) = 0; unfold indS; rw [Int.toNat_natCast, if_neg (by rw [x2]; decide)], indS01 X⟩
    have := (lam_max h hs ht hne).2.ge hc
    have e : capS (bothN g (s : Int) (t : Int)).as (indS X) = overG g X := cap_both g.as (indS01 X)
    omega
  · rw [if_neg hne]
    obtain ⟨S, hS, e⟩ := (lam_max h hs ht hne).2.cut
    have hs' : S (s : Int) = 1 := hS.s
    have ht' : S (t : Int) = 0 := hS.t
    refine ⟨fun x => decide (S (x : Int) = 1), decide_eq_true hs', decide_eq_false (by omega), ?_⟩
    rw [← e]
    have e2 : capS (bothN g (s : Int) (t : Int)).as S = lsA (across S) g.as := cap_both g.as hS.b
    rw [e2]
    refine lsA_congr fun a ha => ?_
    have G := h.ok.arc a ha
    have eq : ∀ x : Int, 0 ≤ x → indS (fun x => decide (S (x : Int) = 1)) x = S x := fun x hx => indS_eq hS.b hx
    unfold across
    rw [eq _ G.f0, eq _ G.t0]
  · by_cases q : s = t
    · subst q; rfl
    · rw [if_neg q, if_neg (fun z => q z.symm)]
      have a := (lam_max h hs ht q).2
      have b := (lam_max h ht hs (fun z => q z.symm)).2
      have o1 := bothN_ok h (s := (s : Int)) (t := (t : Int)) (by omega) (by omega) (by omega) (by omega) (by omega)
      have := max_swap o1 a b
      have := max_swap (okN_swap o1) b a
      omega
end Go.Proofs.Ytdpkdicciclobaa
