/- Sides of package walk: what it answers. -/
import Derived.Test.YtdpkdicciclobaaPparts
namespace Go.Proofs.Ytdpkdicciclobaa
open Go Go.Proofs.Ytdpkdicciclobaa.Sx
set_option linter.unusedVariables false
set_option linter.unusedSimpArgs false
def backA (a : Arc) : Arc := ⟨a.t, a.f, 0⟩
def bothL (l : List Arc) : List Arc := l.foldl (fun m a => m ++ [a, backA a]) []
theorem bothL_aux : ∀ (l m : List Arc), l.foldl (fun m a => m ++ [a, backA a]) m = m ++ bothL l
  | [], m => by simp [bothL]
  | a :: l, m => by
    unfold bothL
    rw [List.foldl_cons, List.foldl_cons, bothL_aux l, bothL_aux l]
    simp
theorem bothL_cons (a : Arc) (l : List Arc) : bothL (a :: l) = a :: backA a :: bothL l := by
  show (a :: l).foldl _ [] = _
  rw [List.foldl_cons, bothL_aux]; rfl
theorem bothL_mem {l : List Arc} {b : Arc} : b ∈ bothL l ↔ ∃ a, a ∈ l ∧ (b = a ∨ b = backA a) := by
  induction l with
  | nil => simp [bothL]
  | cons a l ih =>
    rw [bothL_cons, List.mem_cons, List.mem_cons, ih]
    constructor
    · rintro (h | h | ⟨c, hc, h⟩)
      · exact ⟨a, by simp, .inl h⟩
      · exact ⟨a, by simp, .inr h⟩
      · exact ⟨c, by simp [hc], h⟩
    · rintro ⟨c, hc, h⟩
      rcases List.mem_cons.1 hc with e | e
      · subst e; exact h.elim .inl fun h => .inr (.inl h)
      · exact .inr (.inr ⟨c, e, h⟩)
theorem both_eq {g : Graph} (hg : g.as.length ≤ 1000) : walk_both_F g = some ⟨g.n, bothL g.as⟩ := by
  unfold walk_both_F
  obtain ⟨h1, _⟩ := forN_list (f := walk_both_B1 g) g.as El.d (fun m a => m ++ [a, backA a]) (fun j l => l.length = 2 * j) (s := []) rfl fun j s hj hs => by
    unfold walk_both_B1
    rw [ck_some (by omega)]
    exact ⟨rfl, by simp [hs]; omega⟩
  rw [h1]; rfl
/-- One arc: who has a side gives the other one to whom it leads, if that has none. -/
def sideA (l : List Int) (a : Arc) : List Int := if 0 ≤ atI l a.f ∧ atI l a.t < 0 then l.set a.t.toNat (1 - atI l a.f) else l
structure SV (n : Int) (l : List Int) : Prop where
  len : l.length = n.toNat
  val : ∀ x, 0 ≤ x → x < n → atI l x = -1 ∨ atI l x = 0 ∨ atI l x = 1
theorem SV.step {n : Int} {l : List Int} {a : Arc} (h : SV n l) (h0 : 0 ≤ a.f) (h1 : a.f < n) (h2 : 0 ≤ a.t) (h3 : a.t < n) : SV n (sideA l a) := by
  unfold sideA
  split
  · rename_i hc
    refine ⟨by simp [h.len], fun x hx hx2 => ?_⟩
    rw [atI_set h2 (by have := h.len; omega) hx]
    have v1 := h.val a.f h0 h1
    split
    · omega
    · exact h.val x hx hx2
  · exact h
theorem sideA_iff {n : Int} {l : List Int} {a : Arc} (h : SV n l) (h0 : 0 ≤ a.f) (h1 : a.f < n) (h2 : 0 ≤ a.t) (h3 : a.t < n) {x : Int} (hx : 0 ≤ x) : 0 ≤ atI (sideA l a) x ↔ 0 ≤ atI l x ∨ (x = a.t ∧ 0 ≤ atI l a.f) := by
  unfold sideA
  have v1 := h.val a.f h0 h1
  by_cases hc : 0 ≤ atI l a.f ∧ atI l a.t < 0
  · rw [if_pos hc, atI_set h2 (by have := h.len; omega) hx]
    by_cases e : x = a.t
    · rw [if_pos e]; constructor
      · intro _; exact .inr ⟨e, hc.1⟩
      · intro _; omega
    · rw [if_neg e]; simp [e]
  · rw [if_neg hc]
    constructor
    · exact .inl
    · rintro (h | ⟨e, h⟩)
      · exact h
      · subst e; omega
structure Sided (g : Graph) (l : List Int) : Prop where
  len : l.length = g.n.toNat
  arc : ∀ a, a ∈ g.as → (atI l a.f = 0 ∧ atI l a.t = 1) ∨ (atI l a.f = 1 ∧ atI l a.t = 0)
/-- a colouring of two colours -/
structure Two (g : Graph) (c : Int → Int) : Prop where
  v : ∀ x, 0 ≤ x → x < g.n → c x = 0 ∨ c x = 1
  arc : ∀ a, a ∈ g.as → c a.f ≠ c a.t
structure SVP (g : Graph) (p l : List Int) : Prop where
  sv : SV g.n l
  root : ∀ x, 0 ≤ x → x < g.n → atI p x = x → 0 ≤ atI l x
  par : ∀ c, Two g c → ∀ x, 0 ≤ x → x < g.n → 0 ≤ atI l x → (atI l x + c x + c (atI p x)) % 2 = 0
theorem SVP.step {g : Graph} {p l : List Int} {b : Arc} (h : SVP g p l) (hP : Parted g p) (hg : Ok g) (hb : b ∈ bothL g.as) (h0 : 0 ≤ b.f) (h1 : b.f < g.n) (h2 : 0 ≤ b.t) (h3 : b.t < g.n) : SVP g p (sideA l b) := by
  refine ⟨h.sv.step h0 h1 h2 h3, fun x hx hx2 e => (sideA_iff h.sv h0 h1 h2 h3 hx).2 (.inl (h.root x hx hx2 e)), fun c hc x hx hx2 hr => ?_⟩
  have hlen := h.sv.len
  have hpb : atI p b.f = atI p b.t := by
    obtain ⟨a, ha, e⟩ := bothL_mem.1 hb
    rcases e with rfl | rfl
    · exact hP.arc _ ha
    · exact (hP.arc a ha).symm
  have hcb : c b.f ≠ c b.t := by
    obtain ⟨a, ha, e⟩ := bothL_mem.1 hb
    rcases e with rfl | rfl
    · exact hc.arc _ ha
    · exact fun e => hc.arc a ha e.symm
  have q1 := hc.v b.f h0 h1
  have q2 := hc.v b.t h2 h3
  unfold sideA at hr ⊢
  by_cases hh : 0 ≤ atI l b.f ∧ atI l b.t < 0
  · rw [if_pos hh, atI_set h2 (by omega) hx] at hr ⊢
    by_cases e : x = b.t
    · rw [if_pos e]
      have := h.par c hc b.f h0 h1 hh.1
      rw [e, ← hpb]
      omega
    · rw [if_neg e] at hr ⊢
      exact h.par c hc x hx hx2 hr
  · rw [if_neg hh] at hr ⊢
    exact h.par c hc x hx hx2 hr
theorem sides_full {g : Graph} (hg : Ok g) : (∃ l, walk_Sides_F g = some (l, 0) ∧ Sided g l) ∨ (walk_Sides_F g = some ([], 6) ∧ ∀ c, ¬ Two g c) := by
  unfold walk_Sides_F
  have hn0 := hg.n0; have hn1 := hg.n1; have hl := hg.len
  obtain ⟨p, hp, hP⟩ := parts_ok hg
  have hplen := hP.pi.len
  rw [hp, bind_some']; dsimp only
  rw [if_neg (by simp), ck_some ⟨by omega, by omega⟩]
  obtain ⟨l0, e0, s0, s1⟩ := forN_inv (f := walk_Sides_B1 p) (fun j l => SV g.n l ∧ (∀ i : Nat, i < j → atI l i = if p.getD i 0 = (i : Int) then 0 else -1)) (n := p.length) (k := 0) (s := List.replicate g.n.toNat 0)
    ⟨⟨by simp, fun x hx hx2 => .inr (.inl (by unfold atI; rw [getD_replicate']; split <;> rfl))⟩, fun i hi => absurd hi (by omega)⟩ fun j l _ hj ⟨hs, hi⟩ => by
      have hls := hs.len
      have hset : ∀ v : Int, (v = -1 ∨ v = 0) → v = (if p.getD j 0 = (j : Int) then 0 else -1) → SV g.n (l.set j v) ∧ ∀ i : Nat, i < j + 1 → atI (l.set j v) i = if p.getD i 0 = (i : Int) then 0 else -1 := fun v hv hv2 => by
        have hat : ∀ x : Int, 0 ≤ x → atI (l.set j v) x = if x = (j : Int) then v else atI l x := fun x hx => by
          have := atI_set (l := l) (t := (j : Int)) (v := v) (by omega) (by omega) hx
          rwa [Int.toNat_natCast] at this
        refine ⟨⟨by simp [hls], fun x hx hx2 => ?_⟩, fun i hij => ?_⟩
        · rw [hat x hx]; split
          · omega
          · exact hs.val x hx hx2
        · rw [hat i (by omega)]
          by_cases e : i = j
          · subst e; rw [if_pos rfl]; exact hv2
          · rw [if_neg (by omega)]; exact hi i (by omega)
      unfold walk_Sides_B1
      rw [ck_some (by omega)]
      by_cases hc : p.getD j 0 = (j : Int)
      · rw [if_pos hc, List.set_set]
        exact ⟨_, rfl, hset 0 (.inr rfl) (by rw [if_pos hc])⟩
      · rw [if_neg hc]
        exact ⟨_, rfl, hset (-1) (.inl rfl) (by rw [if_neg hc])⟩
  rw [e0, bind_some', ck_some (inI_small (by omega) (by omega))]
  have hin : ∀ b, b ∈ bothL g.as → 0 ≤ b.f ∧ b.f < g.n ∧ 0 ≤ b.t ∧ b.t < g.n := fun b hb => by
    obtain ⟨a, ha, h⟩ := bothL_mem.1 hb
    have hga := hg.arc a ha
    have := hga.f0; have := hga.f1; have := hga.t0; have := hga.t1
    rcases h with h | h
    · subst h; omega
    · subst h; simp only [backA]; omega
  have hstepV : ∀ s b, b ∈ bothL g.as → SVP g p s → SVP g p (sideA s b) := fun s b hb hs => hs.step hP hg hb (hin b hb).1 (hin b hb).2.1 (hin b hb).2.2.1 (hin b hb).2.2.2
  have hs00 : SVP g p l0 := ⟨s0, fun x hx hx2 e => by
    have h1 := s1 x.toNat (by omega)
    rw [show ((x.toNat : Nat) : Int) = x by omega] at h1
    have e' : p.getD x.toNat 0 = x := e
    rw [h1, if_pos e']; decide, fun c hc x hx hx2 hr => by
    have h1 := s1 x.toNat (by omega)
    rw [show ((x.toNat : Nat) : Int) = x by omega] at h1
    by_cases e : p.getD x.toNat 0 = x
    · rw [if_pos e] at h1
      have e' : atI p x = x := e
      rw [h1, e']; omega
    · rw [if_neg e] at h1; omega⟩
  have hround : ∀ k s, SVP g p s → walk_Sides_B2 g k s = some ((bothL g.as).foldl sideA s) := fun k s hs => by
    unfold walk_Sides_B2
    rw [both_eq (by omega), bind_some']
    have := forN_list (f := walk_Sides_B3 ⟨g.n, bothL g.as⟩) (bothL g.as) El.d sideA (fun _ l => SVP g p l) hs fun j s hj hs => by
      have hb := hin _ (mem_getD (d := El.d) hj)
      have hls := hs.sv.len
      refine ⟨?_, hstepV s _ (mem_getD hj) hs⟩
      unfold walk_Sides_B3
      dsimp only
      rw [ck_some ⟨hb.1, by omega⟩]
      have v1 := hs.sv.val _ hb.1 hb.2.1
      unfold sideA
      by_cases h1 : 0 ≤ atI s ((bothL g.as).getD j El.d).f
      · have h1' : 0 ≤ s.getD (((bothL g.as).getD j El.d).f).toNat 0 := h1
        rw [if_pos h1', ck_some ⟨hb.2.2.1, by omega⟩]
        by_cases h2 : atI s ((bothL g.as).getD j El.d).t < 0
        · have h2' : s.getD (((bothL g.as).getD j El.d).t).toNat 0 < 0 := h2
          have v1' : s.getD (((bothL g.as).getD j El.d).f).toNat 0 = -1 ∨ s.getD (((bothL g.as).getD j El.d).f).toNat 0 = 0 ∨ s.getD (((bothL g.as).getD j El.d).f).toNat 0 = 1 := v1
          rw [if_pos h2', if_pos ⟨h1, h2⟩, ck_some (inI_small (by omega) (by omega))]
          rfl
        · have h2' : ¬ s.getD (((bothL g.as).getD j El.d).t).toNat 0 < 0 := h2
          rw [if_neg h2', if_neg (fun x => h2 x.2)]
      · have h1' : ¬ 0 ≤ s.getD (((bothL g.as).getD j El.d).f).toNat 0 := h1
        rw [if_neg h1', if_neg (fun x => h1 x.1)]
    rw [this.1]; rfl
  have hfoldV : ∀ s, SVP g p s → SVP g p ((bothL g.as).foldl sideA s) := by
    have : ∀ (M : List Arc), (∀ b, b ∈ M → b ∈ bothL g.as) → ∀ s, SVP g p s → SVP g p (M.foldl sideA s) := by
      intro M
      induction M with
      | nil => intro _ s h; exact h
      | cons b M ih => intro hM s h; exact ih (fun c hc => hM c (by simp [hc])) _ (hstepV s b (hM b (by simp)) h)
    exact this _ fun _ h => h
  obtain ⟨e1, hfin⟩ := forN_iter (f := walk_Sides_B2 g) (g := fun s => (bothL g.as).foldl sideA s) (SVP g p) hfoldV hround (n := g.n.toNat) (k := 0) hs00
  rw [e1, bind_some']
  have hrest := rest_fold (n := g.n) (bothL g.as) sideA (fun l x => 0 ≤ atI l x) (SVP g p) hstepV (fun s b hb hs x hx hx2 h => (sideA_iff hs.sv (hin b hb).1 (hin b hb).2.1 (hin b hb).2.2.1 (hin b hb).2.2.2 hx).2 (.inl h))
    (fun s s' b hb hs hs' h x hx hx2 => by
      rw [sideA_iff hs.sv (hin b hb).1 (hin b hb).2.1 (hin b hb).2.2.1 (hin b hb).2.2.2 hx, sideA_iff hs'.sv (hin b hb).1 (hin b hb).2.1 (hin b hb).2.2.1 (hin b hb).2.2.2 hx, h x hx hx2, h b.f (hin b hb).1 (hin b hb).2.1]) hs00
    ⟨0, by omega, by omega, by
      have hp0 := hP.pi.lo 0 (by omega) (by omega)
      have : p.getD 0 0 = ((0 : Nat) : Int) := by have : atI p 0 = p.getD 0 0 := rfl; omega
      have := s1 0 (by omega)
      rw [show ((0 : Nat) : Int) = 0 from rfl] at this
      show 0 ≤ atI l0 0
      rw [this, if_pos (by assumption)]; omega⟩
  generalize iter (fun s => (bothL g.as).foldl sideA s) g.n.toNat l0 = fin at hrest hfin
  have close : ∀ b, b ∈ bothL g.as → 0 ≤ atI fin b.f → 0 ≤ atI fin b.t := fun b hb h => by
    obtain ⟨s, hs, h1, h2⟩ := hrest b hb
    have hi := hin b hb
    exact h2 b.t hi.2.2.1 hi.2.2.2 ((sideA_iff hs.sv hi.1 hi.2.1 hi.2.2.1 hi.2.2.2 hi.2.2.1).2 (.inr ⟨rfl, (h1 b.f hi.1 hi.2.1).2 h⟩))
  have hflen := hfin.sv.len
  have hall : ∀ x, 0 ≤ x → x < g.n → 0 ≤ atI fin x := fun x hx hx2 => by
    have hj := hP.pi.joined (fun y => if 0 ≤ atI fin y then 1 else 0) (fun a ha => by
      have c1 := close a (bothL_mem.2 ⟨a, ha, .inl rfl⟩)
      have c2 := close (backA a) (bothL_mem.2 ⟨a, ha, .inr rfl⟩)
      simp only [backA] at c2
      by_cases h1 : 0 ≤ atI fin a.f
      · rw [if_pos h1, if_pos (c1 h1)]
      · rw [if_neg h1, if_neg (fun h => h1 (c2 h))]) x hx hx2
    have b := hP.pi.lo x hx hx2
    have hroot : atI p (atI p x) = atI p x := hP.pi.joined (atI p) hP.arc x hx hx2
    have := hfin.root (atI p x) b.1 (by omega) hroot
    rw [if_pos this] at hj
    refine Classical.byContradiction fun h => ?_
    rw [if_neg h] at hj; omega
  obtain ⟨q, f1, f2⟩ := forC_or (f := walk_Sides_B4 g fin) (fun j _ => ∀ i, i < j → atI fin (g.as.getD i El.d).f ≠ atI fin (g.as.getD i El.d).t) (fun q => (q = .go () ∧ ∀ i, i < g.as.length → atI fin (g.as.getD i El.d).f ≠ atI fin (g.as.getD i El.d).t) ∨ (q = .ret ([], 6) ∧ ∃ i, i < g.as.length ∧ atI fin (g.as.getD i El.d).f = atI fin (g.as.getD i El.d).t)) (n := g.as.length) (k := 0) (s := ()) (fun i hi => absurd hi (by omega)) (fun j _ _ hj hI => by
      have ha := hg.arc _ (mem_getD (d := El.d) (show j < g.as.length by omega))
      have := ha.f0; have := ha.f1; have := ha.t0; have := ha.t1
      unfold walk_Sides_B4
      rw [ck_some ⟨ha.f0, by omega⟩, ck_some ⟨ha.t0, by omega⟩]
      by_cases hc : atI fin (g.as.getD j El.d).f = atI fin (g.as.getD j El.d).t
      · right; right
        have hc' : fin.getD ((g.as.getD j El.d).f).toNat 0 = fin.getD ((g.as.getD j El.d).t).toNat 0 := hc
        exact ⟨_, by rw [if_pos hc'], .inr ⟨rfl, j, by omega, hc⟩⟩
      · left
        have hc' : ¬ fin.getD ((g.as.getD j El.d).f).toNat 0 = fin.getD ((g.as.getD j El.d).t).toNat 0 := hc
        refine ⟨(), by rw [if_neg hc'], fun i hi => ?_⟩
        by_cases e : i = j
        · subst e; exact hc
        · exact hI i (by omega)) (fun _ h => .inl ⟨rfl, fun i hi => h i (by omega)⟩)
  rw [f1, bind_some']
  rcases f2 with ⟨rfl, f3⟩ | ⟨rfl, i, hi, f3⟩
  · left
    refine ⟨fin, rfl, hflen, fun a ha => ?_⟩
    obtain ⟨i, hi, e⟩ := getD_of_mem (d := El.d) ha
    have hne := f3 i hi
    rw [e] at hne
    have hga := hg.arc a ha
    have v1 := hfin.sv.val a.f hga.f0 hga.f1
    have v2 := hfin.sv.val a.t hga.t0 hga.t1
    have c1 := close a (bothL_mem.2 ⟨a, ha, .inl rfl⟩)
    have c2 := close (backA a) (bothL_mem.2 ⟨a, ha, .inr rfl⟩)
    simp only [backA] at c2
    omega
  · right
    refine ⟨rfl, fun c hc => ?_⟩
    have hm := mem_getD (d := El.d) hi
    have hga := hg.arc _ hm
    have q1 := hfin.par c hc _ hga.f0 hga.f1 (hall _ hga.f0 hga.f1)
    have q2 := hfin.par c hc _ hga.t0 hga.t1 (hall _ hga.t0 hga.t1)
    have q3 := hP.arc _ hm
    have q4 := hc.arc _ hm
    have q5 := hc.v _ hga.f0 hga.f1
    have q6 := hc.v _ hga.t0 hga.t1
    rw [f3, q3] at q1
    omega
theorem sides_ok {g : Graph} (hg : Ok g) : (∃ l, walk_Sides_F g = some (l, 0) ∧ Sided g l) ∨ walk_Sides_F g = some ([], 6) := by
  rcases sides_full hg with h | ⟨h, _⟩
  · exact .inl h
  · exact .inr h
theorem sides_bad {g : Graph} (h : checkF g (-10000) ≠ 0) : walk_Sides_F g = some ([], checkF g (-10000)) := by
  unfold walk_Sides_F; rw [parts_bad h, bind_some']; dsimp only; rw [if_pos h]
end Go.Proofs.Ytdpkdicciclobaa
