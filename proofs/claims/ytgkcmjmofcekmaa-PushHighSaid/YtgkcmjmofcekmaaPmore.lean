/- Package most: More and Of answer as much as can be. -/
import Derived.Test.YtgkcmjmofcekmaaPmost
namespace Go.Proofs.Ytgkcmjmofcekmaa
open Go Go.Proofs.Ytgkcmjmofcekmaa.Sx
set_option linter.unusedVariables false
set_option linter.unusedSimpArgs false
theorem netAt_set {L : List Arc} {g : List Int} {k : Nat} (hk : k < L.length) (hl : g.length = L.length) (v z : Int) :
    netAt L (g.set k v) z = netAt L g z + (v - g.getD k 0) * ((if (L.getD k El.d).f = z then 1 else 0) - (if (L.getD k El.d).t = z then 1 else 0)) := by
  unfold netAt
  have e : tot (term L (g.set k v) z) L.length = tot (fun i => term L g z i + if i = k then (v - g.getD k 0) * ((if (L.getD k El.d).f = z then 1 else 0) - (if (L.getD k El.d).t = z then 1 else 0)) else 0) L.length := tot_congr fun i hi => by
    unfold term
    by_cases e : i = k
    · have hg : (g.set k v).getD k 0 = v := by rw [getD_set', if_pos ⟨rfl, by omega⟩]
      rw [if_pos e, e, hg]
      by_cases h1 : (L.getD k El.d).f = z
      · rw [if_pos h1, if_pos h1, if_pos h1]
        by_cases h2 : (L.getD k El.d).t = z
        · rw [if_pos h2, if_pos h2, if_pos h2]; omega
        · rw [if_neg h2, if_neg h2, if_neg h2]; omega
      · rw [if_neg h1, if_neg h1, if_neg h1]
        by_cases h2 : (L.getD k El.d).t = z
        · rw [if_pos h2, if_pos h2, if_pos h2]; omega
        · rw [if_neg h2, if_neg h2, if_neg h2]; omega
    · have hg : (g.set k v).getD i 0 = g.getD i 0 := by rw [getD_set', if_neg (fun h => e h.1)]
      rw [hg, if_neg e]; omega
  rw [e, tot_add, tot_single hk (fun i _ hi => if_neg hi), if_pos rfl]
structure Aug (n : Net) (f : List Int) (l : List Step) (r : Int) (nd : Nat → Int) (j : Nat) (g : List Int) : Prop where
  len : g.length = n.as.length
  old : ∀ k, k < n.as.length → (∀ i, i < j → (l.getD i El.d).arc ≠ k) → g.getD k 0 = f.getD k 0
  rg : ∀ k, k < n.as.length → 0 ≤ g.getD k 0 ∧ g.getD k 0 ≤ (n.as.getD k El.d).c
  net : ∀ z, netAt n.as g z = netAt n.as f z + r * ((if nd j = z then 1 else 0) - (if n.t = z then 1 else 0))
theorem aug_step {n : Net} {f : List Int} (hw : WIn n f) {l : List Step} {r : Int} {nd : Nat → Int} (hT : Trail n f l r) (hst : ∀ i, i < l.length → StepR n.as f (l.getD i El.d) (nd (i + 1)) (nd i)) {j : Nat} (hj : j < l.length) {g : List Int} (h : Aug n f l r nd j g) :
    ∃ g', most_More_B2 l r j g = some g' ∧ Aug n f l r nd (j + 1) g' := by
  have hs := hst j hj
  have a0 := hs.a0; have a1 := hs.a1
  have hG := hw.net.arc a1
  have c0 := hG.c0; have c1 := hG.c1
  have hrj := hT.room j hj
  have hpos := hT.pos; have hbig := hT.big
  have hgl := h.len
  have hgr := h.rg (l.getD j El.d).arc.toNat a1
  have hold := h.old (l.getD j El.d).arc.toNat a1 fun i hi e => hT.apart i j hi hj (by omega)
  unfold most_More_B2
  have rest : ∀ v : Int, 0 ≤ v → v ≤ (n.as.getD (l.getD j El.d).arc.toNat El.d).c → (∀ z, (v - g.getD (l.getD j El.d).arc.toNat 0) * ((if (n.as.getD (l.getD j El.d).arc.toNat El.d).f = z then 1 else 0) - (if (n.as.getD (l.getD j El.d).arc.toNat El.d).t = z then 1 else 0)) = r * ((if nd (j + 1) = z then 1 else 0) - (if nd j = z then 1 else 0))) → Aug n f l r nd (j + 1) (g.set (l.getD j El.d).arc.toNat v) := fun v v0 v1 hv => by
    refine ⟨by simp [hgl], fun k hk hi => ?_, fun k hk => ?_, fun z => ?_⟩
    · rw [getD_set', if_neg (fun e => hi j (by omega) (by omega))]
      exact h.old k hk fun i hi' => hi i (by omega)
    · rw [getD_set']
      by_cases e : k = (l.getD j El.d).arc.toNat
      · rw [if_pos ⟨e, by omega⟩, e]; exact ⟨v0, v1⟩
      · rw [if_neg (fun q => e q.1)]; exact h.rg k hk
    · rw [netAt_set a1 hgl, h.net z, hv z, Int.mul_sub, Int.mul_sub, Int.mul_sub]; omega
  cases hb : (l.getD j El.d).back with
  | true =>
    obtain ⟨e1, e2, e3⟩ := hs.bw hb
    unfold roomR at hrj
    rw [hb, if_pos rfl] at hrj
    rw [if_pos rfl, ck_some (by omega), ck_some (inI_small (by omega) (by omega))]
    refine ⟨_, rfl, rest _ (by omega) (by omega) fun z => ?_⟩
    rw [e1, e2, show g.getD (l.getD j El.d).arc.toNat 0 - r - g.getD (l.getD j El.d).arc.toNat 0 = -r by omega, Int.neg_mul, ← Int.mul_neg]
    congr 1; omega
  | false =>
    obtain ⟨e1, e2, e3⟩ := hs.fw hb
    unfold roomR at hrj
    rw [hb, if_neg (by decide)] at hrj
    rw [if_neg (by decide), ck_some (by omega), ck_some (inI_small (by omega) (by omega))]
    refine ⟨_, rfl, rest _ (by omega) (by omega) fun z => ?_⟩
    rw [e1, e2, show g.getD (l.getD j El.d).arc.toNat 0 + r - g.getD (l.getD j El.d).arc.toNat 0 = r by omega]
theorem augment {n : Net} {f : List Int} (hf : Flow n f) {l : List Step} {r : Int} (hT : Trail n f l r) : ∃ g, forN (most_More_B2 l r) l.length 0 f = some g ∧ Flow n g ∧ netAt n.as g n.s = netAt n.as f n.s + r := by
  obtain ⟨nd, z0, z1, hst⟩ := hT.nd
  obtain ⟨g, e, hg⟩ := forN_inv (f := most_More_B2 l r) (fun j g => Aug n f l r nd j g) (n := l.length) (k := 0) (s := f) ⟨hf.len, fun k _ _ => rfl, fun k hk => hf.r k (by rw [hf.len]; exact hk), fun z => by rw [z0, Int.sub_self, Int.mul_zero, Int.add_zero]⟩ fun j g _ hj h => aug_step hf.win hT hst (by omega) h
  rw [Nat.zero_add] at hg
  have hn := hf.net
  refine ⟨g, e, ⟨hn, hg.len, fun k hk => hg.rg k (by rw [← hg.len]; exact hk), fun x hx h1 h2 => ?_⟩, ?_⟩
  · rw [hg.net, z1, if_neg (fun e => h1 e.symm), if_neg (fun e => h2 e.symm), Int.sub_self, Int.mul_zero, Int.add_zero]; exact hf.keep x hx h1 h2
  · rw [hg.net, z1, if_pos rfl, if_neg (fun e => hn.ne e.symm)]; omega
def capOut (n : Net) : Int := tot (fun k => if (n.as.getD k El.d).f = n.s then (n.as.getD k El.d).c else 0) n.as.length
theorem Flow.le_capOut {n : Net} {f : List Int} (h : Flow n f) : netAt n.as f n.s ≤ capOut n ∧ capOut n - netAt n.as f n.s ≤ 600000 := by
  have hlen := h.net.g.len
  dsimp only at hlen
  have each : ∀ k, k < n.as.length → 0 ≤ (if (n.as.getD k El.d).f = n.s then (n.as.getD k El.d).c else 0) - term n.as f n.s k ∧ (if (n.as.getD k El.d).f = n.s then (n.as.getD k El.d).c else 0) - term n.as f n.s k ≤ 10000 := fun k hk => by
    have hG := h.net.arc hk
    have := hG.c0; have := hG.c1
    have := h.r k (by rw [h.len]; exact hk)
    unfold term
    split <;> split <;> omega
  have e : capOut n - netAt n.as f n.s = tot (fun k => (if (n.as.getD k El.d).f = n.s then (n.as.getD k El.d).c else 0) - term n.as f n.s k) n.as.length := by unfold capOut netAt; rw [tot_sub]
  have h1 := tot_nonneg (f := fun k => (if (n.as.getD k El.d).f = n.s then (n.as.getD k El.d).c else 0) - term n.as f n.s k) (n := n.as.length) fun k hk => (each k hk).1
  have h2 := (tot_abs (f := fun k => (if (n.as.getD k El.d).f = n.s then (n.as.getD k El.d).c else 0) - term n.as f n.s k) (M := 10000) (n := n.as.length) fun k hk => ⟨by have := (each k hk).1; omega, (each k hk).2⟩).2
  constructor <;> omega
theorem Flow.value_le {n : Net} {f : List Int} (h : Flow n f) (x : Int) : -600000 ≤ netAt n.as f x ∧ netAt n.as f x ≤ 600000 := by
  have hlen := h.net.g.len
  dsimp only at hlen
  have := tot_abs (f := term n.as f x) (M := 10000) (n := n.as.length) fun i hi => h.term_le x hi
  unfold netAt
  omega
theorem more_ok {n : Net} {f : List Int} (hf : Flow n f) : ∃ g v, most_More_F n f = some (g, v, 0) ∧ Flow n g ∧ netAt n.as g n.s = v ∧ ∃ S, Cut n S ∧ Tight n g S := by
  have hlen := hf.net.g.len
  dsimp only at hlen
  have hfl := hf.len
  unfold most_More_F
  rw [value_ok hf, bind_some']
  dsimp only
  rw [if_neg (by decide), ck_some (by omega), List.nil_append]
  obtain ⟨q, e, hq⟩ := loopC_or (f := most_More_B1 n) (fun σ => Flow n σ.2 ∧ σ.1 = netAt n.as σ.2 n.s) (fun q => ∃ g v, q = .ret (g, v, 0) ∧ Flow n g ∧ netAt n.as g n.s = v ∧ ∃ S, Cut n S ∧ Tight n g S) (fun σ => (capOut n - σ.1).toNat) (fun σ ⟨h, hv⟩ => by
    obtain ⟨v, g⟩ := σ
    dsimp only at h hv
    unfold most_More_B1
    dsimp only
    rcases way_spec h.win with ⟨e, S, h1, h2⟩ | ⟨l, r, e, hT⟩
    · right; right
      rw [e, bind_some']
      dsimp only
      rw [if_pos rfl]
      exact ⟨_, rfl, g, v, rfl, h, hv.symm, S, h1, h2⟩
    · left
      have hp := hT.pos; have hb := hT.big
      obtain ⟨g', e2, h3, h4⟩ := augment h hT
      have b := h.value_le n.s
      have b2 := h3.le_capOut
      rw [e, bind_some']
      dsimp only
      rw [if_neg (by omega), e2, bind_some', ck_some (inI_small (by omega) (by omega))]
      exact ⟨_, rfl, ⟨h3, by dsimp only; omega⟩, by dsimp only; omega⟩) (n := 1000000) (s := (netAt n.as f n.s, f)) ⟨hf, rfl⟩ (by have := hf.le_capOut; dsimp only; omega)
  obtain ⟨g, v, rfl, h1, h2, h3⟩ := hq
  rw [e, bind_some']
  exact ⟨g, v, rfl, h1, h2, h3⟩
theorem more_bad {n : Net} {f : List Int} (h : ¬ Flow n f) : ∃ e, e ≠ 0 ∧ most_More_F n f = some ([], 0, e) := by
  obtain ⟨e, he, h1⟩ := value_bad h
  unfold most_More_F
  exact ⟨e, he, by rw [h1, bind_some']; dsimp only; rw [if_pos he]⟩
theorem flow_zero {n : Net} (hn : OkNet n) : Flow n (List.replicate n.as.length 0) := by
  refine ⟨hn, by simp, fun k hk => ?_, fun x _ _ _ => ?_⟩
  · have hk' : k < n.as.length := by simpa using hk
    have := (hn.arc hk').c0
    rw [getD_replicate', if_pos hk']
    omega
  · unfold netAt
    refine tot_zero fun k hk => ?_
    unfold term
    rw [getD_replicate', if_pos hk]
    split <;> split <;> rfl
theorem of_ok {n : Net} (hn : OkNet n) : ∃ g v, most_Of_F n = some (g, v, 0) ∧ Flow n g ∧ netAt n.as g n.s = v ∧ ∃ S, Cut n S ∧ Tight n g S := by
  have hlen := hn.g.len
  dsimp only at hlen
  have hc : graph_CheckNet_F n = some 0 := by
    rcases checkNet_cases n with ⟨_, h⟩ | ⟨h, _⟩
    · exact h
    · exact absurd hn h
  obtain ⟨g, v, e, h⟩ := more_ok (flow_zero hn)
  unfold most_Of_F
  rw [hc, bind_some', if_neg (by decide), ck_some ⟨by omega, by omega⟩]
  simp only [Int.toNat_natCast]
  rw [e]
  exact ⟨g, v, rfl, h⟩
theorem of_bad {n : Net} (h : ¬ OkNet n) : ∃ e, e ≠ 0 ∧ graph_CheckNet_F n = some e ∧ most_Of_F n = some ([], 0, e) := by
  rcases checkNet_cases n with ⟨h1, _⟩ | ⟨_, e, he, h1⟩
  · exact absurd h1 h
  · unfold most_Of_F
    exact ⟨e, he, h1, by rw [h1, bind_some', if_pos he]⟩
theorem of_max {n : Net} (hn : OkNet n) : ∃ g v, most_Of_F n = some (g, v, 0) ∧ Flow n g ∧ netAt n.as g n.s = v ∧ MaxV n v := by
  obtain ⟨g, v, e, h1, h2, S, h3, h4⟩ := of_ok hn
  exact ⟨g, v, e, h1, h2, ⟨g, h1, h2⟩, S, h3, by rw [← h2]; exact (h1.eq_cut h3 h4).symm⟩
end Go.Proofs.Ytgkcmjmofcekmaa
