/- MostTimes: the law's function answers true. -/
import Derived.Test.YtclaacfebgigiaaPcut
import Derived.Test.YtclaacfebgigiaaPref
import Derived.Test.YtclaacfebgigiaaKMostTimes
namespace Go.Proofs.Ytclaacfebgigiaa
open Go Go.Proofs.Ytclaacfebgigiaa.Sx
set_option linter.unusedVariables false
set_option linter.unusedSimpArgs false
/-! ### so many times -/
def timesN (n : Net) (b : Int) : Net := ⟨n.n, n.s, n.t, n.as.map fun a => ⟨a.f, a.t, b * a.c⟩⟩
theorem times_getD (L : List Arc) (b : Int) {k : Nat} (hk : k < L.length) : (L.map fun a => (⟨a.f, a.t, b * a.c⟩ : Arc)).getD k El.d = ⟨(L.getD k El.d).f, (L.getD k El.d).t, b * (L.getD k El.d).c⟩ := by
  simp only [List.getD_eq_getElem?_getD, List.getElem?_map, List.getElem?_eq_getElem hk]; rfl
theorem times_loop {n : Net} {b : Int} (hn : OkNet n) (h0 : 0 ≤ b) (h1 : b < 10) : forN (weirkeep_MostTimes_B1 n b) n.as.length 0 n.as = some (timesN n b).as := by
  obtain ⟨l, e, hl, hx⟩ := forN_inv (f := weirkeep_MostTimes_B1 n b) (fun j l => l.length = n.as.length ∧ ∀ i, i < n.as.length → l.getD i El.d = if i < j then ⟨(n.as.getD i El.d).f, (n.as.getD i El.d).t, b * (n.as.getD i El.d).c⟩ else n.as.getD i El.d) (n := n.as.length) (k := 0) (s := n.as) ⟨rfl, fun i hi => by rw [if_neg (by omega)]⟩ fun j l _ hj ⟨i1, i2⟩ => by
    have hj' : j < n.as.length := by omega
    have c0 := (hn.arc hj').c0; have c1 := (hn.arc hj').c1
    have m0 : 0 ≤ b * (n.as.getD j El.d).c := Int.mul_nonneg h0 c0
    have m1 : b * (n.as.getD j El.d).c ≤ 9 * 10000 := Int.mul_le_mul (by omega) c1 c0 (by omega)
    unfold weirkeep_MostTimes_B1
    have e := i2 j hj'
    rw [if_neg (by omega)] at e
    rw [ck_some hj', ck_some (inI_small (by omega) (by omega)), ck_some (by omega), e]
    refine ⟨_, rfl, by simp [i1], fun i hi => ?_⟩
    rw [getD_set']
    by_cases q : i = j
    · rw [if_pos ⟨q, by omega⟩, if_pos (by omega), q]
    · rw [if_neg (fun h => q h.1), i2 i hi]
      by_cases q2 : i < j
      · rw [if_pos q2, if_pos (by omega)]
      · rw [if_neg q2, if_neg (by omega)]
  rw [e]
  congr 1
  refine eq_of_getD (d := El.d) (by simp [timesN, hl]) fun i hi => ?_
  rw [hx i (by omega), if_pos (by omega)]
  exact (times_getD n.as b (by omega)).symm
theorem times_max {n : Net} (hn : OkNet n) {b v : Int} (h0 : 0 ≤ b) (hv : MaxV n v) (ho : OkNet (timesN n b)) : MaxV (timesN n b) (b * v) := by
  obtain ⟨f, hf, e⟩ := hv.flow
  obtain ⟨S, hS, e2⟩ := hv.cut
  have hl : (timesN n b).as.length = n.as.length := by simp [timesN]
  have ha : ∀ k, k < n.as.length → (timesN n b).as.getD k El.d = ⟨(n.as.getD k El.d).f, (n.as.getD k El.d).t, b * (n.as.getD k El.d).c⟩ := fun k hk => times_getD n.as b hk
  have hg : ∀ k, k < n.as.length → (f.map (b * ·)).getD k 0 = b * f.getD k 0 := fun k hk => by
    have := hf.len
    simp only [List.getD_eq_getElem?_getD, List.getElem?_map, List.getElem?_eq_getElem (show k < f.length by omega)]; rfl
  have hnet : ∀ z, netAt (timesN n b).as (f.map (b * ·)) z = b * netAt n.as f z := fun z => by
    unfold netAt
    rw [hl, ← tot_mul]
    refine tot_congr fun k hk => ?_
    unfold term
    rw [ha k hk, hg k hk]
    dsimp only
    rw [Int.mul_sub]
    congr 1 <;> split <;> simp
  refine ⟨⟨f.map (b * ·), ⟨ho, by rw [hl]; simp [hf.len], fun k hk => ?_, fun x hx q1 q2 => ?_⟩, ?_⟩, ⟨S, ⟨hS.s, hS.t, hS.b⟩, ?_⟩⟩
  · have hk' : k < n.as.length := by rw [← hf.len]; simpa using hk
    have := hf.r k (by rw [hf.len]; exact hk')
    rw [hg k hk', ha k hk']
    exact ⟨Int.mul_nonneg h0 this.1, Int.mul_le_mul_of_nonneg_left this.2 h0⟩
  · rw [hnet, hf.keep x hx q1 q2, Int.mul_zero]
  · show netAt (timesN n b).as _ n.s = _
    rw [hnet, e]
  · rw [← e2]
    unfold capS
    rw [hl, ← tot_mul]
    refine tot_congr fun k hk => ?_
    unfold cross
    rw [ha k hk]
    dsimp only
    split <;> simp
/-! ### an arc more, from the source to the sink -/
def moreN (n : Net) (c : Int) : Net := ⟨n.n, n.s, n.t, n.as ++ [⟨n.s, n.t, c⟩]⟩
theorem getD_append_left {α : Type} {l m : List α} {d : α} {k : Nat} (h : k < l.length) : (l ++ m).getD k d = l.getD k d := by
  simp only [List.getD_eq_getElem?_getD, List.getElem?_append_left h]
theorem getD_append_last {α : Type} (l : List α) (a d : α) : (l ++ [a]).getD l.length d = a := by
  simp [List.getD_eq_getElem?_getD]
theorem more_max {n : Net} (hn : OkNet n) {c v : Int} (h0 : 0 ≤ c) (hv : MaxV n v) (ho : OkNet (moreN n c)) : MaxV (moreN n c) (v + c) := by
  obtain ⟨f, hf, e⟩ := hv.flow
  obtain ⟨S, hS, e2⟩ := hv.cut
  have hl : (moreN n c).as.length = n.as.length + 1 := by simp [moreN]
  have hlen := hf.len
  have ha : ∀ k, k < n.as.length → (moreN n c).as.getD k El.d = n.as.getD k El.d := fun k hk => getD_append_left hk
  have hz : (moreN n c).as.getD n.as.length El.d = ⟨n.s, n.t, c⟩ := getD_append_last _ _ _
  have hnet : ∀ z, netAt (moreN n c).as (f ++ [c]) z = netAt n.as f z + ((if n.s = z then c else 0) - (if n.t = z then c else 0)) := fun z => by
    unfold netAt
    rw [hl, tot]
    congr 1
    · refine tot_congr fun k hk => ?_
      unfold term
      rw [ha k hk, getD_append_left (by omega)]
    · unfold term
      rw [hz, ← hlen, getD_append_last]
  refine ⟨⟨f ++ [c], ⟨ho, by rw [hl]; simp [hlen], fun k hk => ?_, fun x hx q1 q2 => ?_⟩, ?_⟩, ⟨S, ⟨hS.s, hS.t, hS.b⟩, ?_⟩⟩
  · by_cases q : k < n.as.length
    · rw [ha k q, getD_append_left (by omega)]; exact hf.r k (by omega)
    · have : k = n.as.length := by simp at hk; omega
      rw [this, hz, ← hlen, getD_append_last]
      exact ⟨h0, Int.le_refl _⟩
  · have q1' : ¬ n.s = (x : Int) := fun h => q1 h.symm
    have q2' : ¬ n.t = (x : Int) := fun h => q2 h.symm
    rw [hnet, hf.keep x hx q1 q2, if_neg q1', if_neg q2']; rfl
  · show netAt (moreN n c).as _ n.s = _
    rw [hnet, e, if_pos rfl, if_neg (fun h => hn.ne h.symm)]; omega
  · rw [← e2]
    unfold capS
    rw [hl, tot]
    congr 1
    · refine tot_congr fun k hk => ?_
      unfold cross
      rw [ha k hk]
    · unfold cross
      rw [hz, if_pos ⟨hS.s, hS.t⟩]
theorem MostTimes_true (n : Net) (b more : Int) : weirkeep_MostTimes_F n b more = some true := by
  unfold weirkeep_MostTimes_F
  rw [mosts_eq, bind_some', if_neg (by decide)]
  by_cases hn : OkNet n
  · obtain ⟨g, v, e, h1, h2, hM⟩ := of_max hn
    have hlen := hn.g.len
    dsimp only at hlen
    have v0 := hM.nonneg hn; have v1 := hM.le_total hn
    rw [e, bind_some']
    dsimp only
    rw [if_neg (by decide)]
    by_cases k0 : (n.as.length : Int) = 60
    · rw [if_pos k0, if_pos rfl]
    rw [if_neg k0]
    obtain ⟨r, er, r0, r1⟩ := rest_ok (n := b) (m := 10) (by omega) (by omega)
    obtain ⟨c, ec, c0, c1⟩ := rest_ok (n := more) (m := 1001) (by omega) (by omega)
    rw [er, bind_some', ec, bind_some', clone_eq (by omega), bind_some', times_loop hn r0 r1, bind_some']
    have hmore : OkNet (moreN n c) := ⟨⟨hn.g.n0, hn.g.n1, by simp only [moreN, List.length_append, List.length_cons, List.length_nil]; omega, fun a ha => by
      rcases List.mem_append.1 ha with ha | ha
      · exact hn.g.arc a ha
      · obtain rfl := List.mem_singleton.1 ha
        exact ⟨hn.s0, hn.s1, hn.t0, hn.t1, c0, by dsimp only; omega⟩⟩, hn.s0, hn.s1, hn.t0, hn.t1, hn.ne⟩
    obtain ⟨g3, x, e3, _, _, hM3⟩ := of_max hmore
    have hx := (more_max hn c0 hM hmore).uniq hM3
    have e3' : most_Of_F ⟨n.n, n.s, n.t, n.as ++ [⟨n.s, n.t, c⟩]⟩ = some (g3, x, 0) := e3
    have bv0 : 0 ≤ r * v := Int.mul_nonneg r0 v0
    have bv1 : r * v ≤ 9 * 600000 := Int.mul_le_mul (by omega) (by omega) v0 (by omega)
    have last : (if (0 : Int) = 0 then ck (InI (v + c)) (some (decide (x = v + c))) else some false) = some true := by
      rw [if_pos rfl, ck_some (inI_small (by omega) (by omega))]
      exact congrArg some (decide_eq_true hx.symm)
    by_cases ho : OkNet (timesN n r)
    · obtain ⟨g2, w, e2, _, _, hM2⟩ := of_max ho
      have hw := (times_max hn r0 hM ho).uniq hM2
      have e2' : most_Of_F ⟨n.n, n.s, n.t, (timesN n r).as⟩ = some (g2, w, 0) := e2
      rw [e2', bind_some']
      dsimp only
      rw [bind_some', ck_some (by omega), e3', bind_some']
      dsimp only
      rw [if_neg (by decide), ck_some (inI_small (by omega) (by omega)), if_pos hw.symm]
      exact last
    · obtain ⟨y, hy, _, e2⟩ := of_bad ho
      have e2' : most_Of_F ⟨n.n, n.s, n.t, (timesN n r).as⟩ = some ([], 0, y) := e2
      rw [e2', bind_some']
      dsimp only
      rw [bind_some', ck_some (by omega), e3', bind_some']
      dsimp only
      rw [if_pos hy]
      exact last
  · obtain ⟨e, he, hc, e1⟩ := of_bad hn
    rw [e1, bind_some']
    dsimp only
    rw [if_pos he, if_neg he]
    rfl
end Go.Proofs.Ytclaacfebgigiaa
