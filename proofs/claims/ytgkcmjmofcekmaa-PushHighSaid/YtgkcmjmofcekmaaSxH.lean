/- The walk's rules for arrays that lie in a box, told as functions of the index. Plain laws over any program. -/
import Derived.Test.YtgkcmjmofcekmaaSxG
namespace Go.Proofs.Ytgkcmjmofcekmaa.Sx
open Go
set_option linter.unusedVariables false
set_option linter.unusedSimpArgs false

/-- cells pre, then the elements of an array -/
def arrC {α : Type} [El α] (pre : List D) (g : Nat → α) : C :=
  ⟨1, fun _ j => cond (Nat.blt j pre.length) (nth pre j) (El.enc (g ((j - pre.length) / El.size α)) ((j - pre.length) % El.size α))⟩
def updF {α : Type} (g : Nat → α) (i : Nat) (v : α) : Nat → α := fun j => if j = i then v else g j
/-- an array's cells, as a value -/
def arrG {α : Type} [El α] (g : Nat → α) : Nat → D := fun j => El.enc (g (j / El.size α)) (j % El.size α)

section
variable {α : Type} [El α] {pre : List D} {g : Nat → α} {i off n size F : Nat} {v : α} {q : D}
theorem div_at {s : Nat} (ho : off < s) : (i * s + off) / s = i ∧ (i * s + off) % s = off :=
  ⟨by rw [Nat.mul_comm, Nat.mul_add_div (by omega), Nat.div_eq_of_lt ho, Nat.add_zero], by rw [Nat.mul_comm, Nat.mul_add_mod, Nat.mod_eq_of_lt ho]⟩
theorem blt_no {m k : Nat} : Nat.blt (m + k) m = false := by
  rw [Bool.eq_false_iff]; intro h; have := blt_lt h; omega
theorem arrC_get {e : Nat} (ho : off < El.size α) : (arrC pre g).get e (pre.length + (i * El.size α + off)) = El.enc (g i) off := by
  simp only [arrC, blt_no, cond_false, Nat.add_sub_cancel_left]
  rw [(div_at ho).1, (div_at ho).2]
theorem blt_of {m k : Nat} (h : m < k) : Nat.blt m k = true := by simpa using h
theorem arr_lt (hF : F = pre.length + (i * El.size α + off)) (hi : i < n) (ho : off < El.size α) (hs : Nat.ble (pre.length + n * El.size α) size = true) : F < size := by
  have h1 := Nat.le_of_ble_eq_true hs
  have h2 := le_cells (s := n) (size := El.size α) (e := i) (f := off + 1) hi (by omega)
  omega
theorem arr_le (hF : F = pre.length + (i * El.size α + 0)) (hi : i < n) (hs : Nat.ble (pre.length + n * El.size α) size = true) : Nat.ble (F + El.size α) size = true := by
  have h1 := Nat.le_of_ble_eq_true hs
  have h2 := le_cells (s := n) (size := El.size α) (e := i) (f := El.size α) hi (Nat.le_refl _)
  rw [Nat.ble_eq]; omega
theorem upd_arr1 (hz : El.size α = 1) (hF : F = pre.length + (i * El.size α + 0)) (hq : El.enc v 0 = q) : Upd1 size (arrC pre g) 0 F q (arrC pre (updF g i v)) :=
  ⟨rfl, fun e' f' he hf => by
    have he0 : e' = 0 := by simp only [arrC] at he; omega
    subst he0
    rw [hz] at hF
    by_cases h1 : f' < pre.length
    · have : f' ≠ F := by omega
      simp [arrC, blt_of h1, this]
    · obtain ⟨j, rfl⟩ : ∃ j, f' = pre.length + j := ⟨f' - pre.length, by omega⟩
      simp only [arrC, blt_no, cond_false, Nat.add_sub_cancel_left, hz, Nat.div_one, Nat.mod_one, updF]
      by_cases h2 : j = i
      · rw [if_pos h2, if_pos (by refine ⟨?_, ?_⟩ <;> first | trivial | omega), hq]
      · rw [if_neg h2, if_neg (fun x => h2 (by omega))]⟩
theorem upd_arrN {m : Nat} {h : Nat → D} (hz : El.size α = m) (hm : 0 < m) (hF : F = pre.length + (i * El.size α + 0)) (hq : AllLt m fun f => El.enc v f = h f) : UpdN size (arrC pre g) 0 F m h (arrC pre (updF g i v)) :=
  ⟨rfl, fun e' f' he hf => by
    have he0 : e' = 0 := by simp only [arrC] at he; omega
    subst he0
    rw [hz] at hF
    by_cases h1 : f' < pre.length
    · rw [if_neg (fun x => by have := x.2.1; omega)]
      simp [arrC, blt_of h1]
    · obtain ⟨j, rfl⟩ : ∃ j, f' = pre.length + j := ⟨f' - pre.length, by omega⟩
      simp only [arrC, blt_no, cond_false, Nat.add_sub_cancel_left, hz, updF]
      have hdm := Nat.div_add_mod j m
      have hlt := Nat.mod_lt j hm
      by_cases h2 : j / m = i
      · rw [if_pos h2, if_pos (by subst hF; rw [← h2]; rw [Nat.mul_comm] at hdm; refine ⟨?_, ?_, ?_⟩ <;> first | trivial | omega)]
        have e : pre.length + j - F = j % m := by subst hF; rw [← h2]; rw [Nat.mul_comm] at hdm; omega
        rw [e]
        exact hq.all _ hlt
      · rw [if_neg h2, if_neg]
        rintro ⟨_, x1, x2⟩
        apply h2
        have e : j = i * m + (j - i * m) := by omega
        have h3 : j - i * m < m := by omega
        rw [e]
        exact (div_at h3).1⟩
theorem upd_arrF {f : Nat} (hf0 : f < El.size α) (hF : F = pre.length + (i * El.size α + f)) (hq : AllLt (El.size α) fun f' => El.enc v f' = cond (Nat.beq f' f) q (El.enc (g i) f')) : Upd1 size (arrC pre g) 0 F q (arrC pre (updF g i v)) :=
  ⟨rfl, fun e' f' he hf => by
    have he0 : e' = 0 := by simp only [arrC] at he; omega
    subst he0
    have hm : 0 < El.size α := by omega
    by_cases h1 : f' < pre.length
    · have : f' ≠ F := by omega
      simp [arrC, blt_of h1, this]
    · obtain ⟨j, rfl⟩ : ∃ j, f' = pre.length + j := ⟨f' - pre.length, by omega⟩
      simp only [arrC, blt_no, cond_false, Nat.add_sub_cancel_left, updF]
      have hdm := Nat.div_add_mod j (El.size α)
      have hlt := Nat.mod_lt j hm
      by_cases h2 : j / El.size α = i
      · rw [if_pos h2, hq.all _ hlt]
        by_cases h3 : j % El.size α = f
        · rw [if_pos (by rw [hF, ← h2]; rw [Nat.mul_comm] at hdm; refine ⟨?_, ?_⟩ <;> first | trivial | omega), h3]; simp
        · have hb : Nat.beq (j % El.size α) f = false := by rw [Bool.eq_false_iff]; exact fun e => h3 (Nat.eq_of_beq_eq_true e)
          rw [if_neg (fun x => h3 (by have := x.2; rw [hF, ← h2] at this; rw [Nat.mul_comm] at hdm; omega)), hb, cond_false, h2]
      · rw [if_neg h2, if_neg (fun x => h2 (by
          have : j = i * El.size α + f := by have := x.2; omega
          rw [this]; exact (div_at hf0).1))]⟩
theorem HLe.arr {β : BK} {t : TypeId} {g0 : Nat → D} (h : AllLt size fun j => DLe (g0 j) ((arrC pre g).get 0 j)) : HLe (.one β t size (st1 g0)) (.one β t size (arrC pre g)) :=
  HLe.c (Nat.le_refl _) fun e _ f hf => h.all f hf
theorem HLe.arrP {β : BK} {t : TypeId} {pre' : List D} (hl : pre.length = pre'.length) (h : AllLt pre.length fun j => DLe (nth pre j) (nth pre' j)) : HLe (.one β t size (arrC pre g)) (.one β t size (arrC pre' g)) :=
  HLe.c (Nat.le_refl _) fun e _ f hf => by
    by_cases c : f < pre.length
    · simp only [arrC, blt_of c, blt_of (show f < pre'.length by omega), cond_true]; exact h.all f c
    · obtain ⟨j, rfl⟩ : ∃ j, f = pre.length + j := ⟨f - pre.length, by omega⟩
      have e1 : (arrC pre g).get e (pre.length + j) = (arrC pre' g).get e (pre.length + j) := by
        simp only [arrC, blt_no, cond_false]; rw [hl]; simp only [blt_no, cond_false]
      rw [e1]; exact DLe.refl _
instance [h : IndepE α] [hp : IndepL pre] : IndepC (arrC pre g) := ⟨fun e f => by
  show Indep (cond (Nat.blt f pre.length) (nth pre f) (El.enc _ _))
  cases Nat.blt f pre.length
  · exact h.h _ _
  · exact hp.h f⟩
theorem DLe.arrV {m : Nat} : DLe (.ag m (fun j => (arrC ([] : List D) g).get 0 (j + 0))) (.ag m (arrG g)) :=
  DLe.eq (congrArg (D.ag m) (funext fun j => by
    have : Nat.blt j 0 = false := by rw [Bool.eq_false_iff]; intro h; have := blt_lt h; omega
    simp [arrC, arrG, this]))
end

section
variable {X : Cx} {H0 : List HL} {s : St} {d : Tmp} {ty : TypeId} {pos : String} {aft : Array Edge} {gd : Option (Nat × Bool)} {x y : Operand} {q : D}
theorem ps_loadA {α : Type} [El α] {β : BK} {size F i off n m : Nat} {pre : List D} {g : Nat → α} {t te : TypeId} {H H1 : List HL} [ht : TI X.P t m false] (hx : s.ev x = some (.ptr β size 0 F))
    (hm : At s.heap (.one β te size (arrC pre g)) (.one β te size (arrC pre g)) H) (hm0 : At H0 (.one β te size (arrC pre g)) (.one β te size (arrC pre g)) H1)
    (hF : F = pre.length + (i * El.size α + off)) (hi : i < n) (ho : Nat.blt off (El.size α) = true) (hs : Nat.ble (pre.length + n * El.size α) size = true) (hd : Nat.blt d X.nt = true) :
    PureStep X H0 ⟨some d, .load t x, ty, pos, aft, none⟩ s (s.put d (El.enc (g i) off)) := by
  have h := ps_load (H0 := H0) (ty := ty) (pos := pos) (aft := aft) (t := t) hx hm hm0 (by simp [arrC]) (blt_of (arr_lt hF hi (blt_lt ho) hs)) hd
  rw [hF, arrC_get (blt_lt ho)] at h
  exact h
theorem ps_loadAgA {α : Type} [El α] {β : BK} {size F i off n m : Nat} {pre : List D} {g : Nat → α} {t te : TypeId} {H H1 : List HL} [ht : TI X.P t m true] (hx : s.ev x = some (.ptr β size 0 F))
    (hm : At s.heap (.one β te size (arrC pre g)) (.one β te size (arrC pre g)) H) (hm0 : At H0 (.one β te size (arrC pre g)) (.one β te size (arrC pre g)) H1)
    (hF : F = pre.length + (i * El.size α + 0)) (hi : i < n) (ho : El.size α = m) (hs : Nat.ble (pre.length + n * El.size α) size = true) (hd : Nat.blt d X.nt = true) :
    PureStep X H0 ⟨some d, .load t x, ty, pos, aft, none⟩ s (s.put d (.ag m (El.enc (g i)))) := fun I a w hst => by
  have h1 := Nat.le_of_ble_eq_true hs
  have h2 := le_cells (s := n) (size := El.size α) (e := i) (f := El.size α) hi (Nat.le_refl _)
  obtain ⟨v, g1, g2⟩ := ps_loadAg (H0 := H0) (ty := ty) (pos := pos) (aft := aft) (t := t) hx hm hm0 (by simp [arrC]) (show Nat.ble (F + m) size = true by rw [Nat.ble_eq]; omega) hd I a w hst
  refine ⟨v, g1, ?_⟩
  have hle : DLe (.ag m (fun j => (arrC pre g).get 0 (j + F))) (.ag m (El.enc (g i))) := by
    rintro I w v ⟨vs, rfl, k1, k2⟩
    refine ⟨vs, rfl, k1, fun j hj => ?_⟩
    obtain ⟨u, k3, k4, k5⟩ := k2 j hj
    refine ⟨u, k3, k4, ?_⟩
    have k6 : Rd I w ((arrC pre g).get 0 (j + F)) u := k5
    rw [show j + F = pre.length + (i * El.size α + j) by omega, arrC_get (by omega)] at k6
    exact k6
  have hl : Le (s.put d (.ag m (fun j => (arrC pre g).get 0 (j + F)))) ⟨(d, .ag m (El.enc (g i))) :: (s.put d (.ag m (fun j => (arrC pre g).get 0 (j + F)))).env, s.heap⟩ := Le.re d (by rw [look_put, if_pos rfl]) hle
  have h3 := hl X I _ w g2
  refine ⟨h3.tsz, h3.dfr, fun k e hk => h3.env k e ?_, h3.heap, h3.sep, h3.own, h3.imm, h3.i0, h3.same⟩
  rw [look_put] at hk
  show cond (Nat.beq d k) (some (D.ag m (El.enc (g i)))) _ = _
  by_cases hdk : d = k
  · subst hdk; simpa using hk
  · have : Nat.beq d k = false := by rw [Bool.eq_false_iff]; exact fun e => hdk (Nat.eq_of_beq_eq_true e)
    rw [this, cond_false, look_put, if_neg hdk]
    rwa [if_neg hdk] at hk
theorem ps_indexV {α : Type} [El α] {n m : Nat} {g : Nat → α} {t e : TypeId} {i : Int} {kd : IntKind} [ht : ArT X.P t n e] [he : TI X.P e 1 false] (hx : s.ev x = some (.ag m (arrG g))) (hy : s.ev y = some (.v (.int kd i))) (hi : 0 ≤ i ∧ i < (n : Int))
    (hz : El.size α = 1) (hm : Nat.ble n m = true) (hd : Nat.blt d X.nt = true) : PureStep X H0 ⟨some d, .index t x y, ty, pos, aft, none⟩ s (s.put d (El.enc (g i.toNat) 0)) :=
  ps_of hd fun _ a _ hs => by
    obtain ⟨vs, hv, hsz, h⟩ := hs.ev hx
    have ev : a.eval y = .int kd i := hs.ev hy
    have hm' := Nat.le_of_ble_eq_true hm
    obtain ⟨u, hu, _, hr⟩ := h i.toNat (by omega)
    have e1 : arrG g i.toNat = El.enc (g i.toNat) 0 := by simp [arrG, hz, Nat.mod_one]
    rw [e1] at hr
    exact ⟨u, fun w' _ => by simp [execOp, Instr.index, asIntOf, hv, ev, run_underlying ht.h, hi, he.size, part, he.agg, hu], hr⟩
end
end Go.Proofs.Ytgkcmjmofcekmaa.Sx
