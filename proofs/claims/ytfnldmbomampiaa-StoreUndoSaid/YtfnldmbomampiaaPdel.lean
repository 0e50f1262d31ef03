/- A net without one of its arcs. -/
import Derived.Test.YtfnldmbomampiaaPmax
namespace Go.Proofs.Ytfnldmbomampiaa
open Go Go.Proofs.Ytfnldmbomampiaa.Sx
set_option linter.unusedVariables false
set_option linter.unusedSimpArgs false
theorem tot_skip (F : Nat → Int) {k : Nat} : ∀ {n : Nat}, k ≤ n → tot (fun i => F (if i < k then i else i + 1)) n + F k = tot F (n + 1)
  | 0, h => by
    have : k = 0 := by omega
    subst this
    simp [tot]
  | n + 1, h => by
    have e1 : tot (fun i => F (if i < k then i else i + 1)) (n + 1) = tot (fun i => F (if i < k then i else i + 1)) n + F (if n < k then n else n + 1) := rfl
    have e2 : tot F (n + 1 + 1) = tot F (n + 1) + F (n + 1) := rfl
    by_cases hk : k ≤ n
    · have ih := tot_skip F hk
      rw [if_neg (by omega)] at e1
      omega
    · have : k = n + 1 := by omega
      subst this
      rw [if_pos (by omega)] at e1
      have e3 : tot (fun i => F (if i < n + 1 then i else i + 1)) n = tot F n := tot_congr fun i hi => by rw [if_pos (by omega)]
      have e4 : tot F (n + 1) = tot F n + F n := rfl
      omega
theorem del_getD {α : Type} {xs : List α} {k : Nat} (hk : k < xs.length) (d : α) (i : Nat) : (del xs k (k + 1)).getD i d = xs.getD (if i < k then i else i + 1) d := by
  unfold del
  simp only [List.getD_eq_getElem?_getD]
  by_cases h : i < k
  · rw [if_pos h, List.getElem?_append_left (by simp; omega), List.getElem?_take, if_pos h]
  · rw [if_neg h, List.getElem?_append_right (by simp; omega), List.getElem?_drop]
    have : k + 1 + (i - (List.take k xs).length) = i + 1 := by simp; omega
    rw [this]
theorem del_len1 {α : Type} {xs : List α} {k : Nat} (hk : k < xs.length) : (del xs k (k + 1)).length + 1 = xs.length := by rw [del_length (by omega)]; omega
theorem del_last {α : Type} (xs : List α) (a : α) : del (xs ++ [a]) xs.length (xs.length + 1) = xs := by
  unfold del
  rw [List.take_left, List.drop_of_length_le (by simp), List.append_nil]
def delN (n : Net) (k : Nat) : Net := ⟨n.n, n.s, n.t, del n.as k (k + 1)⟩
theorem net_del {L : List Arc} {f : List Int} {k : Nat} (hk : k < L.length) (hl : f.length = L.length) (z : Int) : netAt (del L k (k + 1)) (del f k (k + 1)) z + term L f z k = netAt L f z := by
  have hd := del_len1 hk
  have e := tot_skip (term L f z) (k := k) (n := (del L k (k + 1)).length) (by omega)
  unfold netAt
  rw [← hd, ← e]
  congr 1
  refine tot_congr fun i _ => ?_
  unfold term
  rw [del_getD hk, del_getD (by omega)]
theorem capS_del {L : List Arc} {k : Nat} (hk : k < L.length) (S : Int → Int) : capS (del L k (k + 1)) S + cross L S k = capS L S := by
  have hd := del_len1 hk
  have e := tot_skip (cross L S) (k := k) (n := (del L k (k + 1)).length) (by omega)
  unfold capS
  rw [← hd, ← e]
  congr 1
  refine tot_congr fun i _ => ?_
  unfold cross
  rw [del_getD hk]
theorem del_okN {n : Net} (hn : OkNet n) {k : Nat} (hk : k < n.as.length) : OkNet (delN n k) :=
  ⟨⟨hn.g.n0, hn.g.n1, by
    have := hn.g.len
    have h2 := del_len1 hk
    show (del n.as k (k + 1)).length ≤ 60
    dsimp only at this
    omega, fun a ha => by
    have ha' : a ∈ del n.as k (k + 1) := ha
    unfold del at ha'
    rcases List.mem_append.1 ha' with h | h
    · exact hn.g.arc a (List.mem_of_mem_take h)
    · exact hn.g.arc a (List.mem_of_mem_drop h)⟩, hn.s0, hn.s1, hn.t0, hn.t1, hn.ne⟩
/-- without an arc at most so much less goes as it takes -/
theorem del_less {n : Net} (hn : OkNet n) {k : Nat} (hk : k < n.as.length) {v w : Int} (hv : MaxV n v) (hw : MaxV (delN n k) w) : v - (n.as.getD k El.d).c ≤ w ∧ w ≤ v := by
  have hG := hn.arc hk
  have h0 := hG.c0
  have hb : ∀ S, 0 ≤ cross n.as S k ∧ cross n.as S k ≤ (n.as.getD k El.d).c := fun S => by unfold cross; split <;> omega
  obtain ⟨S, s1, s2⟩ := hv.cut
  obtain ⟨T, t1, t2⟩ := hw.cut
  have a1 := hw.ge (S := S) ⟨s1.s, s1.t, s1.b⟩
  have a2 := hv.ge (S := T) ⟨t1.s, t1.t, t1.b⟩
  have e1 : capS (delN n k).as S + cross n.as S k = capS n.as S := capS_del hk S
  have e2 : capS (delN n k).as T + cross n.as T k = capS n.as T := capS_del hk T
  have b1 := hb S
  have b2 := hb T
  omega
end Go.Proofs.Ytfnldmbomampiaa
