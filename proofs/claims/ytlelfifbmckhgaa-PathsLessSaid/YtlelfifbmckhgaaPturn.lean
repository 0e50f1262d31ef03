/- Turned nets: flows, cuts and how much goes. -/
import Derived.Test.YtlelfifbmckhgaaPmax
import Derived.Test.YtlelfifbmckhgaaGkeep
namespace Go.Proofs.Ytlelfifbmckhgaa
open Go Go.Proofs.Ytlelfifbmckhgaa.Sx
set_option linter.unusedVariables false
set_option linter.unusedSimpArgs false
theorem okL_long {g : Graph} (h : OkL g 0) : Ok g := ⟨h.n0, h.n1, h.len, fun a ha => by have := h.arc a ha; exact ⟨this.f0, this.f1, this.t0, this.t1, by have := this.c0; omega, this.c1⟩⟩
theorem turn_getD (L : List Arc) (k : Nat) : (L.map turnA).getD k El.d = turnA (L.getD k El.d) := by
  simp only [List.getD_eq_getElem?_getD, List.getElem?_map]
  cases L[k]? <;> rfl
theorem turn_netAt (L : List Arc) (f : List Int) (x : Int) : netAt (L.map turnA) f x = -netAt L f x := by
  unfold netAt
  rw [List.length_map]
  have e : tot (term (L.map turnA) f x) L.length = tot (fun k => 0 - term L f x k) L.length := tot_congr fun k _ => by
    unfold term
    rw [turn_getD]
    simp only [turnA]
    omega
  rw [e, tot_sub, tot_zero (fun _ _ => rfl)]
  omega
theorem flow_turn {n : Net} {f : List Int} (h : Flow n f) : Flow ⟨n.n, n.t, n.s, n.as.map turnA⟩ f := by
  have hn := h.net
  refine ⟨⟨hn.g.turn, hn.t0, hn.t1, hn.s0, hn.s1, fun e => hn.ne e.symm⟩, by rw [h.len]; simp, fun k hk => ?_, fun x hx h1 h2 => ?_⟩
  · dsimp only
    rw [turn_getD]
    exact h.r k hk
  · dsimp only at h1 h2 ⊢
    rw [turn_netAt, h.keep x hx h2 h1]; rfl
def turnN (n : Net) : Net := ⟨n.n, n.t, n.s, n.as.map turnA⟩
theorem ok_turn {n : Net} (hn : OkNet n) : OkNet (turnN n) := ⟨hn.g.turn, hn.t0, hn.t1, hn.s0, hn.s1, fun e => hn.ne e.symm⟩
theorem turned_ok {n : Net} (hn : OkNet n) : weirkeep_turned_F n = some (turnN n) := by
  unfold weirkeep_turned_F
  rw [turn_eq, if_pos ((checkF_ok _ _).2 (okL_long hn.g)), bind_some']
  rfl
theorem turned_some (n : Net) : ∃ m, weirkeep_turned_F n = some m := by
  unfold weirkeep_turned_F
  rw [turn_eq, bind_some']
  generalize (if checkF _ (-10000) = 0 then _ else _ : Graph × Int) = w
  exact ⟨_, rfl⟩
theorem turn_term {a b c : Int} (ha : a = 0 ∨ a = 1) (hb : b = 0 ∨ b = 1) : (if 1 - b = 1 ∧ 1 - a = 0 then c else 0) = if a = 1 ∧ b = 0 then c else 0 := by
  rcases ha with rfl | rfl <;> rcases hb with rfl | rfl <;> rfl
theorem cap_turn {n : Net} {S : Int → Int} (hS : Cut n S) : Cut (turnN n) (fun x => 1 - S x) ∧ capS (turnN n).as (fun x => 1 - S x) = capS n.as S := by
  have hs := hS.s; have ht := hS.t
  refine ⟨⟨?_, ?_, fun x => ?_⟩, ?_⟩
  · show 1 - S n.t = 1; omega
  · show 1 - S n.s = 0; omega
  · rcases hS.b x with h | h <;> rw [h]
    · exact .inr rfl
    · exact .inl rfl
  · unfold capS turnN
    dsimp only
    rw [List.length_map]
    refine tot_congr fun k _ => ?_
    unfold cross
    rw [turn_getD]
    exact turn_term (hS.b _) (hS.b _)
theorem max_turn {n : Net} {v : Int} (h : MaxV n v) : MaxV (turnN n) v := by
  obtain ⟨f, hf, e⟩ := h.flow
  obtain ⟨S, hS, e2⟩ := h.cut
  refine ⟨⟨f, flow_turn hf, ?_⟩, ⟨_, (cap_turn hS).1, by rw [(cap_turn hS).2, e2]⟩⟩
  have := hf.ends
  show netAt (n.as.map turnA) f n.t = v
  rw [turn_netAt]
  omega
end Go.Proofs.Ytlelfifbmckhgaa
