import Derived.Test.YtkfmphlnpmemdaaQSxN
import Derived.Lib.ConvBytes
import Derived.Laws.Pointers
import Derived.Laws.StructEq
set_option linter.unusedVariables false
set_option linter.unusedSimpArgs false
namespace Go.Proofs.Ytkfmphlnpmemdaa.Sx
open Go
structure U8 where
  v : Int
instance : El U8 := ⟨1, fun x _ => .v (.int .u8 x.v), ⟨0⟩⟩
instance : El ByteArray := ⟨1, fun x _ => .v (.string x), ByteArray.empty⟩
instance : IndepE U8 := ⟨fun a f => inferInstanceAs (Indep (.v _))⟩
instance : IndepE ByteArray := ⟨fun a f => inferInstanceAs (Indep (.v _))⟩
def bytesL (s : ByteArray) : List U8 := s.data.toList.map fun b => ⟨(b.toNat : Int)⟩
theorem bytesL_len (s : ByteArray) : (bytesL s).length = s.size := by simp [bytesL]
class StT (P : Program) (t : TypeId) : Prop where
  h : P.underlying t = some .string
class PtT (P : Program) (t : TypeId) (e : outParam TypeId) : Prop where
  h : P.underlying t = some (.pointer e)
section
variable {X : Cx} {fn : Func} {R : Ending → World → Prop} {k : List It} {s s' : St} {all : Array Oper} {os : List Oper} {H0 : List HL} {d : Tmp} {ty : TypeId} {pos : String} {aft : Array Edge} {x y : Operand} {xt yt : TypeId}
theorem ps_lenS {t : TypeId} {z : ByteArray} [ht : StT X.P t] (hx : s.ev x = some (.v (.string z))) (hd : Nat.blt d X.nt = true) :
    PureStep X H0 ⟨some d, .call { callee := .builtin .len, args := #[x], argTypes := #[t] }, ty, pos, aft, none⟩ s (s.put d (.v (.int .i64 ((z.size : Nat) : Int)))) :=
  ps_of hd fun _ a _ hs => by
    have hv : a.eval x = .string z := hs.ev hx
    refine ⟨_, fun w' _ => ?_, rfl⟩
    simp [execOp, resolve, invoke, builtin, Builtin.len_, hv, run_underlying ht.h, goInt]
theorem str_beq (p q : ByteArray) : (p.toList == q.toList) = decide (p = q) := by
  by_cases c : p = q
  · subst c; simp
  · have : ¬ p.toList = q.toList := fun e => c (by
      rw [Go.ByteArray.toList_eq, Go.ByteArray.toList_eq] at e
      exact ByteArray.ext (Array.toList_inj.1 e))
    simp [c, this]
theorem ps_eqlStr {p q : ByteArray} (hx : s.ev x = some (.v (.string p))) (hy : s.ev y = some (.v (.string q))) (hd : Nat.blt d X.nt = true) :
    PureStep X H0 ⟨some d, .binOp .eql xt x y yt, ty, pos, aft, none⟩ s (s.put d (.v (.bool (decide (p = q))))) :=
  ps_of hd fun _ a _ hs => ⟨.bool (decide (p = q)), fun w' _ => by
    have e1 : a.eval x = .string p := hs.ev hx
    have e2 : a.eval y = .string q := hs.ev hy
    have e4 : (eqGuard .eql xt x y (.string p) (.string q)).run X.P w' = .ok () w' := rfl
    simp only [execOp, e1, e2, Sem.run_bind, e4, Result.andThen_ok, binOp, Op.stringOp, str_beq, Sem.run_pure], rfl⟩
end
section
variable {X : Cx} {fn : Func} {R : Ending → World → Prop} {k : List It} {s : St}
end
theorem DLe.shiftR {β : BK} {size r len : Nat} : DLe (.own β size r len) (.own ⟨β.b, β.o + r * size, β.s - r⟩ size 0 len) := fun I w v ⟨ad, cap, hv, g1, g2, g3, g4⟩ =>
  ⟨ad, cap, hv, g1, g2, by simp only; omega, fun h => by rw [g4 h]; simp⟩
theorem Le.shiftRow {β : BK} {t : TypeId} {size r len : Nat} {c : C} {env : List (Nat × D)} {H H' : List HL} (hat : At H (.one β t size c) (.one ⟨β.b, β.o + r * size, β.s - r⟩ t size ⟨len, fun e f => c.get (e + r) f⟩) H') (hl : r + len ≤ c.len) :
    Le ⟨env, H⟩ ⟨env, H'⟩ := fun X I a w hs => by
  have hb : BOk I w β t size c := hs.heap _ hat.mem
  have hrs : r ≤ β.s := by have := hb.1; omega
  refine ⟨hs.tsz, hs.dfr, hs.env, fun z hz => ?_, hat.sep hs.sep fun b hb' => .inl ⟨by have := hb'.1; simp only at this; omega, hb'.2⟩, fun b ⟨z, hz, hzb⟩ => ?_, hs.imm, hs.i0, hs.same⟩
  · rcases hat.old z hz with rfl | hz
    · refine ⟨by simp only; have := hb.1; omega, fun hpos => ?_⟩
      obtain ⟨cs, h1, h2, h3⟩ := hb.2 (by simp only at hpos; omega)
      refine ⟨cs, h1, ?_, fun e he f hf => ?_⟩
      · rw [h2]
        have : β.s * size = r * size + (β.s - r) * size := by rw [← Nat.add_mul]; congr 1; omega
        simp only; omega
      · obtain ⟨u, hu, ho, hr⟩ := h3 (e + r) (by simp only at he; omega) f hf
        refine ⟨u, ?_, ho, hr⟩
        rw [show β.o + r * size + (e * size + f) = β.o + ((e + r) * size + f) by rw [Nat.add_mul]; omega]
        exact hu
    · exact hs.heap z hz
  · rcases hat.old z hz with rfl | hz
    · exact hs.own b ⟨_, hat.mem, by have := hzb.1; simp only at this; omega, hzb.2⟩
    · exact hs.own b ⟨z, hz, hzb⟩
theorem upd_stN {size f n : Nat} {g q : Nat → D} : UpdN size (st1 g) 0 f n q (st1 fun f' => cond (Nat.ble f f' && Nat.blt f' (f + n)) (q (f' - f)) (g f')) :=
  ⟨rfl, fun e' f' he hf => by
    have he0 : e' = 0 := by simp only [st1] at he; omega
    subst he0
    simp only [st1]
    by_cases h : f ≤ f' ∧ f' < f + n
    · have h1 : Nat.ble f f' = true := Nat.ble_eq_true_of_le h.1
      have h2 : Nat.blt f' (f + n) = true := Nat.ble_eq_true_of_le h.2
      rw [if_pos ⟨trivial, h⟩, h1, h2]; rfl
    · rw [if_neg (fun z => h z.2)]
      have : (Nat.ble f f' && Nat.blt f' (f + n)) = false := by
        rw [Bool.eq_false_iff]
        intro c
        simp only [Bool.and_eq_true] at c
        exact h ⟨Nat.le_of_ble_eq_true c.1, blt_lt c.2⟩
      rw [this]; rfl⟩
section
variable {X : Cx} {fn : Func} {R : Ending → World → Prop} {k : List It} {s s' : St} {all : Array Oper} {H0 : List HL} {p p1 p2 : Plan} {j0 : Nat}
section
variable {i j : Nat}
end
end
class GE (α : Type) (β : outParam Type) where
  size : Nat
  cells : α → D → Nat → D
  ls : α → List β
  d : α
class GEI (α : Type) {β : Type} [GE α β] : Prop where
  h : ∀ (p : α) (q : D), Indep q → ∀ f, Indep (GE.cells p q f)
instance {β : Type} : GE (List β) β := ⟨1, fun _ q _ => q, id, []⟩
instance {β : Type} : GEI (List β) := ⟨fun _ _ h _ => h⟩
section
variable {α β : Type} [El β] [GE α β]
def gsD (B : Nat → BK) (xs : List α) (e : Nat) : Nat → D := GE.cells (xs.getD e GE.d) (.own (B e) (El.size β) 0 (GE.ls (xs.getD e GE.d)).length)
def gridS (B : Nat → BK) (xs : List α) : C := ⟨xs.length, fun e f => gsD B xs e f⟩
def gridI (te : TypeId) (B : Nat → BK) (xs : List α) : HL := gridH (α := β) te B (xs.map GE.ls)
def rawH (te : TypeId) (B : Nat → BK) (size n : Nat) : HL := .many n B te size (fun _ => raw)
end
instance {α β : Type} [El β] [GE α β] [hg : GEI α] {B : Nat → BK} {xs : List α} : IndepC (gridS B xs) := ⟨fun e f => hg.h _ _ inferInstance _⟩
instance {α β : Type} [El β] [GE α β] [IndepE β] {te : TypeId} {B : Nat → BK} {xs : List α} {H : List HL} [hh : IndepH H] : IndepH (gridI te B xs :: H) := inferInstanceAs (IndepH (gridH te B (xs.map GE.ls) :: H))
instance : IndepC raw := ⟨fun _ _ => inferInstanceAs (Indep .junk)⟩
instance {te : TypeId} {B : Nat → BK} {size n : Nat} {H : List HL} [hh : IndepH H] : IndepH (rawH te B size n :: H) := ⟨fun x hx I w hk => by
  rcases List.mem_cons.1 hx with rfl | hx
  · exact ⟨fun i hi => BOk.indep inferInstance (hk.1 i hi), hk.2⟩
  · exact hh.h x hx I w hk⟩
end Go.Proofs.Ytkfmphlnpmemdaa.Sx
