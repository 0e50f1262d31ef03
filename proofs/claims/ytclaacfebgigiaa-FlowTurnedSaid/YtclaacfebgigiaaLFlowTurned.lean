/- FlowTurned: the law's function answers true. -/
import Derived.Test.YtclaacfebgigiaaPflow
import Derived.Test.YtclaacfebgigiaaKFlowTurned
namespace Go.Proofs.Ytclaacfebgigiaa
open Go Go.Proofs.Ytclaacfebgigiaa.Sx
set_option linter.unusedVariables false
set_option linter.unusedSimpArgs false
theorem flowsT_eq : weirkeep_flows_F = some true := by kernel_rfl
theorem okL_long {g : Graph} (h : OkL g 0) : Ok g := ⟨h.n0, h.n1, h.len, fun a ha => by have := h.arc a ha; exact ⟨this.f0, this.f1, this.t0, this.t1, by have := this.c0; omega, this.c1⟩⟩
theorem turn_getD (L : List Arc) (k : Nat) : (L.map turnA).getD k El.d = turnA (L.getD k El.d) := by
  simp only [List.getD_eq_getElem?_getD, List.getElem?_map]
  cases L[k]? <;> rfl
theorem turn_netAt (L : List Arc) (f : List Int) (x : Int) : netAt (L.map turnA) f x = -netAt L f x := by
  unfold netAt
  rw [List.length_map]
  have e : tot (term (L.map turnA) f x) L.length = tot (fun k => 0 - term L f x k) L.length := tot_congr fun k _ => by
    unfold term
    rw [turn_getD]
    simp only [turnA]
    omega
  rw [e, tot_sub, tot_zero (fun _ _ => rfl)]
  omega
theorem flow_turn {n : Net} {f : List Int} (h : Flow n f) : Flow ⟨n.n, n.t, n.s, n.as.map turnA⟩ f := by
  have hn := h.net
  refine ⟨⟨hn.g.turn, hn.t0, hn.t1, hn.s0, hn.s1, fun e => hn.ne e.symm⟩, by rw [h.len]; simp, fun k hk => ?_, fun x hx h1 h2 => ?_⟩
  · dsimp only
    rw [turn_getD]
    exact h.r k hk
  · dsimp only at h1 h2 ⊢
    rw [turn_netAt, h.keep x hx h2 h1]; rfl
theorem FlowTurned_true (n : Net) (f : List Int) : weirkeep_FlowTurned_F n f = some true := by
  unfold weirkeep_FlowTurned_F
  rw [flowsT_eq, bind_some', if_neg (by decide)]
  unfold weirkeep_turned_F
  rw [turn_eq]
  by_cases h : Flow n f
  · have h2 := flow_turn h
    rw [value_ok h, bind_some', if_pos ((checkF_ok _ _).2 (okL_long h.net.g)), bind_some']
    dsimp only
    rw [bind_some', value_ok h2, bind_some']
    dsimp only
    rw [if_neg (by decide), if_pos rfl, turn_netAt]
    have := h.ends
    exact congrArg some (decide_eq_true (by omega))
  · obtain ⟨e, he, h1⟩ := value_bad h
    rw [h1, bind_some', bind_some']
    generalize (if checkF _ (-10000) = 0 then _ else _ : Graph × Int) = w
    obtain ⟨w1, w2⟩ := w
    dsimp only
    rw [bind_some']
    generalize (⟨n.n, n.t, n.s, w1.as⟩ : Net) = m
    by_cases h2 : Flow m f
    · rw [value_ok h2, bind_some']
      dsimp only
      rw [if_pos he]
    · obtain ⟨e2, _, h3⟩ := value_bad h2
      rw [h3, bind_some']
      dsimp only
      rw [if_pos he]
end Go.Proofs.Ytclaacfebgigiaa
