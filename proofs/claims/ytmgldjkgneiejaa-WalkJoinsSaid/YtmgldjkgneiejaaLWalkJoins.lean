/- WalkJoins: the law's function answers true. -/
import Derived.Test.YtmgldjkgneiejaaPparts
import Derived.Test.YtmgldjkgneiejaaPkeep
import Derived.Test.YtmgldjkgneiejaaKWalkJoins
namespace Go.Proofs.Ytmgldjkgneiejaa
open Go Go.Proofs.Ytmgldjkgneiejaa.Sx
set_option linter.unusedVariables false
set_option linter.unusedSimpArgs false
theorem line_parts : ((walk_Parts_F ⟨3, [⟨0, 1, 4⟩, ⟨1, 2, 3⟩]⟩).bind fun r => (slices_Equal_int_F r.1 [0, 0, 0]).bind fun b => some (decide (r.2 = 0) && b)) = some true := by kernel_rfl
theorem parted_same {g g' : Graph} {l l' : List Int} (h : Parted g l) (h' : Parted g' l') (hn : g.n = g'.n) (hs : ∀ a, a ∈ g.as → atI l' a.f = atI l' a.t) (hs' : ∀ a, a ∈ g'.as → atI l a.f = atI l a.t) : l = l' := by
  have e1 := h.pi.len; have e2 := h'.pi.len
  refine eq_of_getD (d := 0) (by rw [e1, e2, hn]) fun i hi => ?_
  have h1 := h.le h' hn hs (x := (i : Int)) (by omega) (by omega)
  have h2 := h'.le h hn.symm hs' (x := (i : Int)) (by omega) (by omega)
  unfold atI at h1 h2
  rw [show ((i : Int)).toNat = i by omega] at h1 h2
  omega
theorem joins_at {g : Graph} {a : Arc} {l m : List Int} (h : Parted g l) (h' : Parted ⟨g.n, g.as ++ [a]⟩ m) (ha : Good g.n (-10000) a) {k : Int} (k0 : 0 ≤ k) (k1 : k < g.n) :
    atI m k = if atI l k = max (atI l a.f) (atI l a.t) then min (atI l a.f) (atI l a.t) else atI l k := by
  have af := h.pi.lo a.f ha.f0 ha.f1
  have at' := h.pi.lo a.t ha.t0 ha.t1
  have f1 := ha.f1; have t1 := ha.t1
  have lk := h.pi.lo k k0 k1
  have mk := h'.pi.lo k k0 k1
  have lmk := h.pi.lo (atI m k) mk.1 (by omega)
  -- labels joined are the same along all arcs
  have J := h'.pi.joined (fun z => if atI l z = max (atI l a.f) (atI l a.t) then min (atI l a.f) (atI l a.t) else atI l z) (fun b hb => by
    rcases List.mem_append.1 hb with hb | hb
    · rw [h.arc b hb]
    · have : b = a := by simpa using hb
      subst this
      split <;> split <;> omega) k k0 k1
  have M : ∀ b, b ∈ g.as → atI m b.f = atI m b.t := fun b hb => h'.arc b (List.mem_append_left _ hb)
  have Mk := h.pi.joined (atI m) M k k0 k1
  have Mf := h.pi.joined (atI m) M a.f ha.f0 ha.f1
  have Mt := h.pi.joined (atI m) M a.t ha.t0 ha.t1
  have Ma := h'.arc a (by simp)
  have bk := h'.pi.lo (atI l k) lk.1 (show atI l k < g.n by omega)
  have bf := h'.pi.lo (atI l a.f) af.1 (show atI l a.f < g.n by omega)
  have bt := h'.pi.lo (atI l a.t) at'.1 (show atI l a.t < g.n by omega)
  have up : (if atI l k = max (atI l a.f) (atI l a.t) then min (atI l a.f) (atI l a.t) else atI l k) ≤ atI m k := by
    rw [← J]
    split <;> omega
  have down : atI m k ≤ (if atI l k = max (atI l a.f) (atI l a.t) then min (atI l a.f) (atI l a.t) else atI l k) := by
    split
    · rename_i e
      rw [e] at Mk
      rcases Int.le_total (atI l a.f) (atI l a.t) with q | q
      · rw [Int.max_eq_right q] at Mk
        rw [Int.min_eq_left q]
        omega
      · rw [Int.max_eq_left q] at Mk
        rw [Int.min_eq_right q]
        omega
    · omega
  omega
theorem parts_some (g : Graph) : ∃ r, walk_Parts_F g = some r := by
  by_cases hc : checkF g (-10000) = 0
  · obtain ⟨l, h, _⟩ := parts_ok ((checkF_ok g _).1 hc)
    exact ⟨_, h⟩
  · exact ⟨_, parts_bad hc⟩
theorem WalkJoins_true (g : Graph) (a : Arc) (sz : g.as.length + 1 ≤ 5864062014805) : weirkeep_WalkJoins_F g a = some true := by
  unfold weirkeep_WalkJoins_F
  rw [line_eq, bind_some']
  have hl := line_parts
  generalize walk_Parts_F ⟨3, [⟨0, 1, 4⟩, ⟨1, 2, 3⟩]⟩ = q at hl ⊢
  match q, hl with
  | some (r, e), hl =>
  rw [bind_some'] at hl ⊢
  dsimp only at hl ⊢
  generalize slices_Equal_int_F r [0, 0, 0] = u at hl ⊢
  match u, hl with
  | some b, hl =>
  rw [bind_some'] at hl ⊢
  simp only [Option.some.injEq, Bool.and_eq_true, decide_eq_true_eq] at hl
  obtain ⟨rfl, rfl⟩ := hl
  rw [if_neg (by simp), if_neg (by simp)]
  have hclone : slices_Clone_Arc_F g.as = some g.as := by unfold slices_Clone_Arc_F; rw [ck_some (by omega)]; rfl
  by_cases hc : checkF g (-10000) = 0
  · have hg := (checkF_ok g _).1 hc
    obtain ⟨l, h1, H⟩ := parts_ok hg
    obtain ⟨l2, h2, H2⟩ := parts_ok hg.turn
    have same : l = l2 := parted_same H H2 rfl (fun b hb => (H2.arc (turnA b) (List.mem_map_of_mem hb)).symm) (fun b hb => by
      obtain ⟨c, hc, rfl⟩ := List.mem_map.1 hb
      exact (H.arc c hc).symm)
    subst same
    rw [h1, bind_some', turn_ok hg, bind_some']
    dsimp only
    rw [h2, bind_some', hclone, bind_some', ck_some sz]
    by_cases hm : checkF ⟨g.n, g.as ++ [a]⟩ (-10000) = 0
    · have hgm := (checkF_ok _ _).1 hm
      obtain ⟨m, h3, H3⟩ := parts_ok hgm
      have ha : Good g.n (-10000) a := hgm.arc a (by simp)
      have el := H.pi.len; have em : m.length = g.n.toNat := H3.pi.len
      have := hg.n0
      have := ha.f0; have := ha.f1; have := ha.t0; have := ha.t1
      rw [h3, bind_some']
      dsimp only
      rw [if_neg (by simp), if_neg (by simp), if_neg (by simp), equalInts_eq, bind_some', if_neg (by simp), if_neg (by omega), if_neg (by omega), ck_some ⟨by omega, by omega⟩, ck_some ⟨by omega, by omega⟩, forC_all (fun j _ hj => ?_), bind_some']
      unfold weirkeep_WalkJoins_B1
      have J := joins_at H H3 ha (k := (j : Int)) (by omega) (by omega)
      unfold atI at J
      rw [show ((j : Int)).toNat = j by omega] at J
      by_cases c : l.getD j 0 = max (l.getD a.f.toNat 0) (l.getD a.t.toNat 0)
      · rw [if_pos c] at J ⊢
        rw [bind_some', ck_some (by omega), if_neg (fun z => z J)]
      · rw [if_neg c] at J ⊢
        rw [bind_some', ck_some (by omega), if_neg (fun z => z J)]
    · rw [parts_bad hm, bind_some']
      dsimp only
      rw [if_neg (by simp), if_pos hm, if_neg (by simp), if_pos rfl, equalInts_eq, bind_some']
      simp
  · obtain ⟨q2, h2⟩ := parts_some ⟨0, []⟩
    obtain ⟨q3, h3⟩ := parts_some ⟨g.n, g.as ++ [a]⟩
    rw [parts_bad hc, bind_some', turn_bad hc, bind_some']
    dsimp only
    rw [h2, bind_some', hclone, bind_some', ck_some sz, h3, bind_some', if_pos hc, if_pos hc]
end Go.Proofs.Ytmgldjkgneiejaa
