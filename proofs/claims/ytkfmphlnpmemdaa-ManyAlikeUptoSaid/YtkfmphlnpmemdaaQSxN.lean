import Derived.Test.YtkfmphlnpmemdaaQSxM
set_option linter.unusedVariables false
set_option linter.unusedSimpArgs false
namespace Go.Proofs.Ytkfmphlnpmemdaa.Sx
open Go
section
variable {P : Program} {ops : Array Oper} {Q : Exit → Act → World → Prop} {S : Array Bool → World → Prop} {T U : World → Prop}
def ClosedL (ops : Array Oper) (listed : Array Bool) : Prop := ∀ (k : Nat) (o : Oper), ops[k]? = some o → listed.getD k true = true → ∀ e ∈ o.after, Region.binds .any e = true → listed.getD e.on false = true
theorem ClosedL.set {listed : Array Bool} {i : Nat} (h : ClosedL ops listed) (hr : i ∈ Region.ready .any ops listed) : ClosedL ops (listed.setIfInBounds i true) := by
  obtain ⟨hu, o', ho', hall⟩ := mem_ready.1 hr
  have hi : i < listed.size := by
    rcases Nat.lt_or_ge i listed.size with c | c
    · exact c
    · simp [Array.getElem?_eq_none c] at hu
  have up : ∀ x, listed.getD x false = true → (listed.setIfInBounds i true).getD x false = true := fun x hx => by
    by_cases c : i = x
    · subst c; simp [hi]
    · rw [Go.getD_set_ne false c]; exact hx
  intro k o hk hl e he hb
  by_cases c : i = k
  · subst c
    rw [ho'] at hk
    obtain rfl := Option.some.inj hk
    exact up _ (hall e he hb)
  · rw [Go.getD_set_ne true c] at hl
    exact up _ (h k o hk hl e he hb)
def depT (all : Array Oper) : Nat → Nat → Nat → Bool
  | 0, j, i => match all[j]? with | some o => o.after.any (fun e => Region.binds .any e && e.on == i) | none => false
  | f + 1, j, i => (match all[j]? with | some o => o.after.any (fun e => Region.binds .any e && e.on == i) | none => false) || match all[j]? with | some o => o.after.any (fun e => Region.binds .any e && depT all f e.on i) | none => false
theorem depT_listed {listed : Array Bool} (hc : ClosedL ops listed) : ∀ (f j i : Nat), depT ops f j i = true → (∀ o : Oper, ops[j]? = some o → ∀ e ∈ o.after, Region.binds .any e = true → listed.getD e.on false = true) → listed.getD i false = true := by
  have direct : ∀ (j i : Nat), (match ops[j]? with | some o => o.after.any (fun e => Region.binds .any e && e.on == i) | none => false) = true → (∀ o : Oper, ops[j]? = some o → ∀ e ∈ o.after, Region.binds .any e = true → listed.getD e.on false = true) → listed.getD i false = true := fun j i h hj => by
    split at h
    · rename_i o ho
      obtain ⟨e, he, hb⟩ := Array.any_eq_true'.1 h
      simp only [Bool.and_eq_true, beq_iff_eq] at hb
      rw [← hb.2]; exact hj o ho e he hb.1
    · cases h
  intro f
  induction f with
  | zero => exact direct
  | succ f ih =>
    intro j i h hj
    unfold depT at h
    rw [Bool.or_eq_true] at h
    rcases h with h | h
    · exact direct j i h hj
    · split at h
      · rename_i o ho
        obtain ⟨e, he, hb⟩ := Array.any_eq_true'.1 h
        simp only [Bool.and_eq_true] at hb
        have h1 := hj o ho e he hb.1
        refine ih e.on i hb.2 fun o2 ho2 e2 he2 hb2 => hc e.on o2 ho2 ?_ e2 he2 hb2
        rcases Nat.lt_or_ge e.on listed.size with c | c
        · simp [c] at h1 ⊢; exact h1
        · simp [Array.getElem?_eq_none c] at h1
      · cases h
def waits (all : Array Oper) (j0 i : Nat) : Bool := (i != j0) && depT all 4 j0 i
theorem waits_spec {j0 i : Nat} (h : waits ops j0 i = true) : i ≠ j0 ∧ depT ops 4 j0 i = true := by
  unfold waits at h
  simp only [Bool.and_eq_true, bne_iff_ne, ne_eq] at h
  exact h
end
section
variable {X : Cx} {fn : Func} {R : Ending → World → Prop} {k : List It} {s s' : St} {all : Array Oper} {H0 : List HL} {p p1 p2 : Plan} {j0 : Nat}
section
variable {d : Option Tmp} {t : Tmp} {op : Op} {ty : TypeId} {pos : String} {aft : Array Edge} {gd : Option (Nat × Bool)} {i j g : Nat} {want : Bool}
end
end
theorem gridC_len {α : Type} [El α] {B : Nat → BK} {xs : List (List α)} : (gridC B xs).len = xs.length := rfl
def rowO {α : Type} [El α] (xs : List α) (i : Nat) (d : D) : C := ⟨xs.length, fun e f => if e = i then d else El.enc (xs.getD e El.d) f⟩
theorem rowO_len {α : Type} [El α] {xs : List α} {i : Nat} {d : D} : (rowO xs i d).len = xs.length := rfl
def nilD (β : BK) (size len : Nat) : D := if len = 0 then .v (.slice none 0 0) else .own β size 0 len
instance {β : BK} {size len : Nat} : Indep (nilD β size len) := by
  unfold nilD
  by_cases h : len = 0
  · rw [if_pos h]; infer_instance
  · rw [if_neg h]; infer_instance
section
variable {X : Cx} {s : St} {d : Tmp} {ty : TypeId} {pos : String} {aft : Array Edge} {x y : Operand} {H0 : List HL}
end
section
variable {X : Cx} {fn : Func} {R : Ending → World → Prop} {k : List It} {s s' : St} {all : Array Oper} {H0 : List HL} {p p1 p2 : Plan} {i j : Nat}
end
end Go.Proofs.Ytkfmphlnpmemdaa.Sx
