/- FlowSums: the law's function answers true. -/
import Derived.Test.YtclaacfebgigiaaPflow
import Derived.Test.YtclaacfebgigiaaKFlowSums
namespace Go.Proofs.Ytclaacfebgigiaa
open Go Go.Proofs.Ytclaacfebgigiaa.Sx
set_option linter.unusedVariables false
set_option linter.unusedSimpArgs false
theorem flowsS_eq : weirkeep_flows_F = some true := by kernel_rfl
def twice (a : Arc) : Arc := ⟨a.f, a.t, 2 * a.c⟩
theorem sums_loop {n : Net} {f g : List Int} (hf : Flow n f) (hg : Flow n g) : ∃ q, forC (weirkeep_FlowSums_B1 n f g) f.length 0 (n.as, f) = some q ∧
    (match q with | .go s => (s.1.length = n.as.length ∧ s.2.length = n.as.length) ∧ ∀ i, i < n.as.length → s.1.getD i El.d = twice (n.as.getD i El.d) ∧ s.2.getD i 0 = f.getD i 0 + g.getD i 0 ∧ 2 * (n.as.getD i El.d).c ≤ 10000 | .ret r => r = true) := by
  have lf := hf.len; have lg := hg.len
  refine forC_or (f := weirkeep_FlowSums_B1 n f g) (fun j s => (s.1.length = n.as.length ∧ s.2.length = n.as.length) ∧ (∀ i, i < j → s.1.getD i El.d = twice (n.as.getD i El.d) ∧ s.2.getD i 0 = f.getD i 0 + g.getD i 0 ∧ 2 * (n.as.getD i El.d).c ≤ 10000) ∧ ∀ i, j ≤ i → s.1.getD i El.d = n.as.getD i El.d ∧ s.2.getD i 0 = f.getD i 0)
    (fun q => match q with | .go s => (s.1.length = n.as.length ∧ s.2.length = n.as.length) ∧ ∀ i, i < n.as.length → s.1.getD i El.d = twice (n.as.getD i El.d) ∧ s.2.getD i 0 = f.getD i 0 + g.getD i 0 ∧ 2 * (n.as.getD i El.d).c ≤ 10000 | .ret r => r = true)
    ⟨⟨rfl, lf⟩, fun i hi => by omega, fun i _ => ⟨rfl, rfl⟩⟩ (fun j s _ hj ⟨i1, i2, i3⟩ => ?_) (fun s ⟨i1, i2, i3⟩ => ⟨i1, fun i hi => i2 i (by omega)⟩)
  obtain ⟨l, m⟩ := s
  obtain ⟨l1, l2⟩ := i1
  dsimp only at l1 l2 i2 i3
  have hj' : j < n.as.length := by omega
  have hG := hf.net.arc hj'
  have c0 := hG.c0; have c1 := hG.c1
  have r1 := hf.r j (by omega); have r2 := hg.r j (by omega)
  have e1 := (i3 j (Nat.le_refl _)).1
  have e2 := (i3 j (Nat.le_refl _)).2
  unfold weirkeep_FlowSums_B1
  dsimp only
  rw [ck_some hj', ck_some (inI_small (by omega) (by omega)), ck_some (by omega), e1]
  by_cases hc : 10000 < 2 * (n.as.getD j El.d).c
  · rw [if_pos (by rw [getD_set', if_pos ⟨rfl, by omega⟩]; exact hc)]
    exact .inr (.inr ⟨true, rfl, rfl⟩)
  · rw [if_neg (by rw [getD_set', if_pos ⟨rfl, by omega⟩]; exact hc), ck_some (by omega), ck_some (by omega), e2, ck_some (inI_small (by omega) (by omega))]
    refine .inl ⟨_, rfl, ⟨by simp [l1], by simp [l2]⟩, fun i hi => ?_, fun i hi => ?_⟩
    · dsimp only
      rw [getD_set', getD_set']
      by_cases e : i = j
      · subst e
        rw [if_pos ⟨rfl, by omega⟩, if_pos ⟨rfl, by omega⟩]
        exact ⟨rfl, rfl, by omega⟩
      · rw [if_neg (fun z => e z.1), if_neg (fun z => e z.1)]
        exact i2 i (by omega)
    · dsimp only
      rw [getD_set', getD_set', if_neg (fun z => by omega), if_neg (fun z => by omega)]
      exact i3 i (by omega)
theorem FlowSums_true (n : Net) (f g : List Int) : weirkeep_FlowSums_F n f g = some true := by
  unfold weirkeep_FlowSums_F
  rw [flowsS_eq, bind_some', if_neg (by decide)]
  by_cases hf : Flow n f
  · by_cases hg : Flow n g
    · have lf := hf.len; have lg := hg.len; have hlen := hf.net.g.len
      dsimp only at hlen
      have hclone : slices_Clone_int_F f = some f := by unfold slices_Clone_int_F; rw [ck_some (by omega)]; rfl
      rw [value_ok hf, bind_some']
      dsimp only
      rw [value_ok hg, bind_some']
      dsimp only
      rw [if_neg (by decide), if_neg (by decide), clone_eq (by omega), bind_some', hclone, bind_some', if_neg (by omega), if_neg (by omega)]
      obtain ⟨q, h1, h2⟩ := sums_loop hf hg
      rw [h1, bind_some']
      match q, h2 with
      | .ret r, h2 => dsimp only at h2; subst h2; rfl
      | .go (l, m), h2 =>
        obtain ⟨⟨l1, l2⟩, h3⟩ := h2
        dsimp only at l1 l2 h3
        have ht : ∀ x k, k < n.as.length → term l m x k = term n.as f x k + term n.as g x k := fun x k hk => by
          obtain ⟨e1, e2, _⟩ := h3 k hk
          unfold term
          rw [e1, e2]
          simp only [twice]
          by_cases q1 : (n.as.getD k El.d).f = x
          · by_cases q2 : (n.as.getD k El.d).t = x
            · simp only [if_pos q1, if_pos q2]; omega
            · simp only [if_pos q1, if_neg q2]; omega
          · by_cases q2 : (n.as.getD k El.d).t = x
            · simp only [if_neg q1, if_pos q2]; omega
            · simp only [if_neg q1, if_neg q2]; omega
        have hnet : ∀ x, netAt l m x = netAt n.as f x + netAt n.as g x := fun x => by
          unfold netAt
          rw [l1, ← tot_add]
          exact tot_congr fun k hk => ht x k hk
        have hn := hf.net
        have hF : Flow ⟨n.n, n.s, n.t, l⟩ m := by
          refine ⟨⟨⟨hn.g.n0, hn.g.n1, by dsimp only; omega, fun a ha => ?_⟩, hn.s0, hn.s1, hn.t0, hn.t1, hn.ne⟩, by dsimp only; omega, fun k hk => ?_, fun x hx q1 q2 => ?_⟩
          · obtain ⟨k, hk, e⟩ := getD_of_mem (d := El.d) ha
            obtain ⟨e1, _, e3⟩ := h3 k (by dsimp only at hk; omega)
            have hG := hn.arc (k := k) (by dsimp only at hk; omega)
            dsimp only at e ⊢
            rw [← e, e1]
            exact ⟨hG.f0, hG.f1, hG.t0, hG.t1, by have := hG.c0; simp only [twice]; omega, by simp only [twice]; omega⟩
          · obtain ⟨e1, e2, e3⟩ := h3 k (by omega)
            have r1 := hf.r k (by omega); have r2 := hg.r k (by omega)
            dsimp only
            rw [e1, e2]
            simp only [twice]
            omega
          · dsimp only at q1 q2 ⊢
            rw [hnet, hf.keep x hx q1 q2, hg.keep x hx q1 q2]; rfl
        dsimp only
        rw [value_ok hF, bind_some']
        dsimp only
        have b1 := tot_abs (f := term n.as f n.s) (M := 10000) (n := n.as.length) fun i hi => hf.term_le n.s hi
        have b2 := tot_abs (f := term n.as g n.s) (M := 10000) (n := n.as.length) fun i hi => hg.term_le n.s hi
        rw [if_pos rfl, ck_some (inI_small (by unfold netAt; omega) (by unfold netAt; omega)), hnet]
        exact congrArg some (decide_eq_true rfl)
    · obtain ⟨e, he, h1⟩ := value_bad hg
      rw [value_ok hf, bind_some']
      dsimp only
      rw [h1, bind_some']
      dsimp only
      rw [if_neg (by decide), if_pos he]
  · obtain ⟨e, he, h1⟩ := value_bad hf
    rw [h1, bind_some']
    dsimp only
    by_cases hg : Flow n g
    · rw [value_ok hg, bind_some']
      dsimp only
      rw [if_pos he]
    · obtain ⟨e2, _, h2⟩ := value_bad hg
      rw [h2, bind_some']
      dsimp only
      rw [if_pos he]
end Go.Proofs.Ytclaacfebgigiaa
