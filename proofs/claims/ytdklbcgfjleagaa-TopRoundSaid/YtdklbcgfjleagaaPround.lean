/- A net and the circulations with an arc from its sink to its source. -/
import Derived.Test.YtdklbcgfjleagaaPneed
namespace Go.Proofs.Ytdklbcgfjleagaa
open Go Go.Proofs.Ytdklbcgfjleagaa.Sx
set_option linter.unusedVariables false
set_option linter.unusedSimpArgs false
theorem max_exists {n : Net} (hn : OkNet n) : ∃ v, MaxV n v := by
  obtain ⟨_, v, _, _, _, h⟩ := of_max hn
  exact ⟨v, h⟩
/-- a source ahead of the source, that gives just w -/
def capN (n : Net) (w : Int) : Net := ⟨n.n + 1, n.n, n.t, n.as ++ [⟨n.n, n.s, w⟩]⟩
theorem getD_app_l {α : Type} {l m : List α} {d : α} {k : Nat} (h : k < l.length) : (l ++ m).getD k d = l.getD k d := by
  simp only [List.getD_eq_getElem?_getD, List.getElem?_append_left h]
theorem getD_app_z {α : Type} (l : List α) (a d : α) : (l ++ [a]).getD l.length d = a := by
  simp [List.getD_eq_getElem?_getD]
theorem capN_ok {n : Net} (hn : OkNet n) (h11 : n.n ≤ 11) (h59 : n.as.length ≤ 59) {w : Int} (w0 : 0 ≤ w) (w1 : w ≤ 10000) : OkNet (capN n w) := by
  have n0 := hn.g.n0; have s0 := hn.s0; have s1 := hn.s1; have t0 := hn.t0; have t1 := hn.t1
  dsimp only at n0
  refine ⟨⟨by simp only [capN]; omega, by simp only [capN]; omega, by simp only [capN, List.length_append, List.length_cons, List.length_nil]; omega, fun a ha => ?_⟩, by simp only [capN]; omega, by simp only [capN]; omega, by simp only [capN]; omega, by simp only [capN]; omega, by simp only [capN]; omega⟩
  simp only [capN] at ha ⊢
  rcases List.mem_append.1 ha with ha | ha
  · have hG := hn.g.arc a ha
    have := hG.f1; have := hG.t1
    dsimp only at *
    exact ⟨hG.f0, by omega, hG.t0, by omega, hG.c0, hG.c1⟩
  · obtain rfl := List.mem_singleton.1 ha
    exact ⟨by dsimp only; omega, by dsimp only; omega, by dsimp only; omega, by dsimp only; omega, by dsimp only; omega, by dsimp only; omega⟩
/-- a flow of each lesser value there is, too -/
theorem flow_of_value {n : Net} (hn : OkNet n) (h11 : n.n ≤ 11) (h59 : n.as.length ≤ 59) {v w : Int} (hv : MaxV n v) (w0 : 0 ≤ w) (w1 : w ≤ v) (w2 : w ≤ 10000) : ∃ f, Flow n f ∧ netAt n.as f n.s = w := by
  have hc := capN_ok hn h11 h59 w0 w2
  have n0 := hn.g.n0; have s0 := hn.s0; have s1 := hn.s1; have t0 := hn.t0; have t1 := hn.t1
  dsimp only at n0
  have hl : (capN n w).as.length = n.as.length + 1 := by simp [capN]
  have ha : ∀ k, k < n.as.length → (capN n w).as.getD k El.d = n.as.getD k El.d := fun k hk => getD_app_l hk
  have hz : (capN n w).as.getD n.as.length El.d = ⟨n.n, n.s, w⟩ := getD_app_z _ _ _
  obtain ⟨u, hu⟩ := max_exists hc
  obtain ⟨f, hf, ef⟩ := hu.flow
  obtain ⟨S, hS, eS⟩ := hu.cut
  have hfl := hf.len
  have hcap : capS (capN n w).as S = capS n.as S + if S n.n = 1 ∧ S n.s = 0 then w else 0 := by
    unfold capS
    rw [hl, tot]
    congr 1
    · refine tot_congr fun k hk => ?_
      unfold cross; rw [ha k hk]
    · unfold cross; rw [hz]
  have hSn : S n.n = 1 := hS.s
  have nonneg : 0 ≤ capS n.as S := tot_nonneg fun k hk => by
    have := (hn.arc hk).c0
    unfold cross; split <;> omega
  have hge : w ≤ u := by
    rw [← eS, hcap]
    rcases hS.b n.s with q | q
    · rw [if_pos ⟨hSn, q⟩]; omega
    · rw [if_neg (fun z => by omega)]
      have := hv.ge (S := S) ⟨q, hS.t, hS.b⟩
      omega
  have hnet : ∀ z, netAt (capN n w).as f z = netAt n.as f z + ((if n.n = z then f.getD n.as.length 0 else 0) - (if n.s = z then f.getD n.as.length 0 else 0)) := fun z => by
    unfold netAt
    rw [hl, tot]
    congr 1
    · refine tot_congr fun k hk => ?_
      unfold term; rw [ha k hk]
    · unfold term; rw [hz]
  have hr := hf.r n.as.length (by rw [hfl, hl]; omega)
  rw [hz] at hr
  dsimp only at hr
  have out0 : ∀ g : List Int, netAt n.as g n.n = 0 := fun g => by
    unfold netAt
    refine tot_zero fun k hk => ?_
    have hG := hn.arc hk
    have := hG.f1; have := hG.t1
    unfold term
    rw [if_neg (by omega), if_neg (by omega)]; rfl
  have eu : netAt (capN n w).as f n.n = u := ef
  rw [hnet, out0, if_pos rfl, if_neg (by omega)] at eu
  have hlast : f.getD n.as.length 0 = w := by omega
  refine ⟨f.take n.as.length, ⟨hn, by rw [List.length_take]; omega, fun k hk => ?_, fun x hx q1 q2 => ?_⟩, ?_⟩
  · have hk' : k < n.as.length := by rw [List.length_take] at hk; omega
    have := hf.r k (by omega)
    rw [ha k hk'] at this
    rw [show (f.take n.as.length).getD k 0 = f.getD k 0 by simp [List.getD_eq_getElem?_getD, hk']]
    exact this
  all_goals
    have same : ∀ z, netAt n.as (f.take n.as.length) z = netAt n.as f z := fun z => tot_congr fun k hk => by
      unfold term
      rw [show (f.take n.as.length).getD k 0 = f.getD k 0 by simp [List.getD_eq_getElem?_getD, hk]]
    rw [same]
  · by_cases hxn : (x : Int) = n.n
    · rw [hxn]; exact out0 f
    · have := hf.keep x hx hxn q2
      rw [hnet, if_neg (fun z => hxn z.symm), if_neg (fun z => q1 z.symm)] at this
      omega
  · have := hf.keep n.s.toNat (by have := hn.g.n1; dsimp only at this; omega) (by simp only [capN]; omega) (by simp only [capN]; have := hn.ne; omega)
    rw [show ((n.s.toNat : Nat) : Int) = n.s by omega, hnet, if_neg (by omega), if_pos rfl] at this
    omega
/-- the arcs of a net, and one from the sink to the source that must take w -/
def backL (n : Net) (w : Int) : List Need := ⟨n.t, n.s, w, 333⟩ :: n.as.map fun a => ⟨a.f, a.t, 0, a.c⟩
structure Fit (n : Net) : Prop where
  ok : OkNet n
  n10 : n.n ≤ 10
  len : n.as.length < 30
  cap : ∀ a, a ∈ n.as → a.c ≤ 333
theorem backL_ok {n : Net} (h : Fit n) {w : Int} (w0 : 0 ≤ w) (w1 : w ≤ 333) : NeedOk n.n (backL n w) := by
  have hn := h.ok
  refine ⟨hn.g.n0, h.n10, by have := h.len; simp [backL]; omega, fun a ha => ?_⟩
  rcases List.mem_cons.1 ha with rfl | ha
  · exact ⟨⟨hn.t0, hn.t1, hn.s0, hn.s1⟩, w0, w1, Int.le_refl _⟩
  · obtain ⟨b, hb, rfl⟩ := List.mem_map.1 ha
    have hG := hn.g.arc b hb
    exact ⟨⟨hG.f0, hG.f1, hG.t0, hG.t1⟩, Int.le_refl _, hG.c0, h.cap b hb⟩
theorem backL_getD (n : Net) (w : Int) (k : Nat) (hk : k < n.as.length) : (backL n w).getD (k + 1) El.d = ⟨(n.as.getD k El.d).f, (n.as.getD k El.d).t, 0, (n.as.getD k El.d).c⟩ := by
  show (n.as.map fun a => (⟨a.f, a.t, 0, a.c⟩ : Need)).getD k El.d = _
  simp only [List.getD_eq_getElem?_getD, List.getElem?_map, List.getElem?_eq_getElem hk]; rfl
theorem back_net {n : Net} (w g0 : Int) (g : List Int) (z : Int) : netAt (arcsN (backL n w)) (g0 :: g) z = ((if n.t = z then g0 else 0) - (if n.s = z then g0 else 0)) + netAt n.as g z := by
  unfold netAt
  rw [arcsN_len]
  have hl : (backL n w).length = n.as.length + 1 := by simp [backL]
  rw [hl, tot_cons']
  congr 1
  refine tot_congr fun k hk => ?_
  rw [term_N, backL_getD n w k hk]
  rfl
/-- a flow of that much is a circulation -/
theorem circ_back {n : Net} (h : Fit n) {w u : Int} (w1 : w ≤ u) (u1 : u ≤ 333) {f : List Int} (hf : Flow n f) (hv : netAt n.as f n.s = u) : Circ n.n (backL n w) (u :: f) := by
  have hn := h.ok
  have hl : (backL n w).length = n.as.length + 1 := by simp [backL]
  refine ⟨by rw [hl, List.length_cons, hf.len], fun k hk => ?_, fun x hx => ?_⟩
  · cases k with
    | zero => exact ⟨w1, u1⟩
    | succ k =>
      have hk' : k < n.as.length := by omega
      rw [backL_getD n w k hk']
      exact hf.r k (by rw [hf.len]; exact hk')
  · have hx12 := hn.g.n1
    dsimp only at hx12
    rw [back_net]
    have he := hf.ends
    by_cases q1 : n.s = (x : Int)
    · rw [if_pos q1, if_neg (fun z => hn.ne (q1.trans z.symm)), ← q1]; omega
    · rw [if_neg q1]
      by_cases q2 : n.t = (x : Int)
      · rw [if_pos q2, ← q2]; omega
      · rw [if_neg q2, hf.keep x (by omega) (fun z => q1 z.symm) (fun z => q2 z.symm)]; rfl
theorem flow_back {n : Net} (h : Fit n) {w g0 : Int} {g : List Int} (hc : Circ n.n (backL n w) (g0 :: g)) : w ≤ g0 ∧ g0 ≤ 333 ∧ Flow n g ∧ netAt n.as g n.s = g0 := by
  have hn := h.ok
  have hl : (backL n w).length = n.as.length + 1 := by simp [backL]
  have hb0 := hc.bnd 0 (by omega)
  have hgl := hc.len
  rw [hl, List.length_cons] at hgl
  have n1 := hn.g.n1; have n0 := hn.g.n0
  dsimp only at n0 n1
  have hs := hn.s0; have hs1 := hn.s1
  refine ⟨hb0.1, hb0.2, ⟨hn, by omega, fun k hk => ?_, fun x hx q1 q2 => ?_⟩, ?_⟩
  · have := hc.bnd (k + 1) (by omega)
    rw [backL_getD n w k (by omega)] at this
    exact this
  · by_cases hxn : x < n.n.toNat
    · have := hc.keep x hxn
      rw [back_net, if_neg (fun z => q2 z.symm), if_neg (fun z => q1 z.symm)] at this
      omega
    · unfold netAt
      refine tot_zero fun k hk => ?_
      have hG := hn.arc hk
      have := hG.f1; have := hG.t1
      unfold term
      rw [if_neg (by omega), if_neg (by omega)]; rfl
  · have := hc.keep n.s.toNat (by omega)
    rw [show ((n.s.toNat : Nat) : Int) = n.s by omega, back_net, if_pos rfl, if_neg (fun z => hn.ne z.symm)] at this
    omega
theorem circ_iff {n : Net} (h : Fit n) {v w : Int} (hv : MaxV n v) (w0 : 0 ≤ w) (w1 : w ≤ 333) : (∃ g, Circ n.n (backL n w) g) ↔ w ≤ v := by
  constructor
  · rintro ⟨g, hg⟩
    cases g with
    | nil => have := hg.len; simp [backL] at this
    | cons g0 g =>
      obtain ⟨q1, _, hf, e⟩ := flow_back h hg
      have := hv.le hf
      omega
  · intro hw
    obtain ⟨f, hf, e⟩ := flow_of_value h.ok (by have := h.n10; omega) (by have := h.len; omega) hv w0 hw (by omega)
    exact ⟨_, circ_back h (Int.le_refl _) w1 hf e⟩
end Go.Proofs.Ytdklbcgfjleagaa
