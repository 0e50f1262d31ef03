/- Package paths: the net with each node taken in two. -/
import Derived.Test.YtlelfifbmckhgaaPpaths
import Derived.Test.YtlelfifbmckhgaaPspread
namespace Go.Proofs.Ytlelfifbmckhgaa
open Go Go.Proofs.Ytlelfifbmckhgaa.Sx
set_option linter.unusedVariables false
set_option linter.unusedSimpArgs false
/-! ### sums along lists -/
def csum (S : Int → Int) : List Arc → Int
  | [] => 0
  | a :: L => (if S a.f = 1 ∧ S a.t = 0 then a.c else 0) + csum S L
theorem capS_csum (S : Int → Int) : ∀ L : List Arc, capS L S = csum S L
  | [] => rfl
  | a :: L => by
    have ih := capS_csum S L
    unfold capS at ih ⊢
    rw [List.length_cons, Nat.add_comm, tot_split, csum, ← ih]
    have e1 : tot (cross (a :: L) S) 1 = if S a.f = 1 ∧ S a.t = 0 then a.c else 0 := by simp [tot, cross]
    rw [e1]
    congr 1
    exact tot_congr fun i _ => by
      unfold cross
      rw [Nat.add_comm, List.getD_cons_succ]
theorem csum_app (S : Int → Int) (L M : List Arc) : csum S (L ++ M) = csum S L + csum S M := by
  induction L with
  | nil => simp [csum]
  | cons a L ih => simp only [List.cons_append, csum, ih]; omega
/-! ### the arcs -/
def innP (n : Net) (k : Nat) : Prop := (k : Int) ≠ n.s ∧ (k : Int) ≠ n.t
instance (n : Net) (k : Nat) : Decidable (innP n k) := by unfold innP; infer_instance
def innL (n : Net) : Nat → List Arc
  | 0 => []
  | k + 1 => if innP n k then innL n k ++ [⟨2 * (k : Int), 2 * (k : Int) + 1, 1⟩] else innL n k
def kepP (n : Net) (k : Nat) : Prop := (n.as.getD k El.d).f ≠ n.t ∧ (n.as.getD k El.d).t ≠ n.s ∧ (n.as.getD k El.d).f ≠ (n.as.getD k El.d).t
instance (n : Net) (k : Nat) : Decidable (kepP n k) := by unfold kepP; infer_instance
def kepL (n : Net) : Nat → List Int
  | 0 => []
  | k + 1 => if kepP n k then kepL n k ++ [(k : Int)] else kepL n k
def kepA (n : Net) (k : Int) : Arc := ⟨2 * (n.as.getD k.toNat El.d).f + 1, 2 * (n.as.getD k.toNat El.d).t, 12⟩
def splA (n : Net) : List Arc := innL n n.n.toNat ++ (kepL n n.as.length).map (kepA n)
def splN (n : Net) : Net := ⟨2 * n.n, 2 * n.s + 1, 2 * n.t, splA n⟩
structure SplG (n : Net) : Prop where
  net : OkNet n
  n6 : n.n ≤ 6
  m30 : n.as.length ≤ 30
  dir : ∀ k, k < n.as.length → ¬ ((n.as.getD k El.d).f = n.s ∧ (n.as.getD k El.d).t = n.t)
theorem innL_mem {n : Net} {a : Arc} : ∀ {j : Nat}, a ∈ innL n j → ∃ k : Nat, k < j ∧ innP n k ∧ a = ⟨2 * (k : Int), 2 * (k : Int) + 1, 1⟩
  | 0, h => by cases h
  | j + 1, h => by
    rw [innL] at h
    by_cases c : innP n j
    · rw [if_pos c] at h
      rcases List.mem_append.1 h with h | h
      · obtain ⟨k, hk, h⟩ := innL_mem h
        exact ⟨k, by omega, h⟩
      · exact ⟨j, by omega, c, List.mem_singleton.1 h⟩
    · rw [if_neg c] at h
      obtain ⟨k, hk, h⟩ := innL_mem h
      exact ⟨k, by omega, h⟩
theorem kepL_mem {n : Net} {a : Int} : ∀ {j : Nat}, a ∈ kepL n j → ∃ k : Nat, k < j ∧ kepP n k ∧ a = (k : Int)
  | 0, h => by cases h
  | j + 1, h => by
    rw [kepL] at h
    by_cases c : kepP n j
    · rw [if_pos c] at h
      rcases List.mem_append.1 h with h | h
      · obtain ⟨k, hk, h⟩ := kepL_mem h
        exact ⟨k, by omega, h⟩
      · exact ⟨j, by omega, c, List.mem_singleton.1 h⟩
    · rw [if_neg c] at h
      obtain ⟨k, hk, h⟩ := kepL_mem h
      exact ⟨k, by omega, h⟩
theorem innL_len {n : Net} (hn : OkNet n) : ∀ j : Nat, ((innL n j).length : Int) + (if n.s < (j : Int) then 1 else 0) + (if n.t < (j : Int) then 1 else 0) = (j : Int)
  | 0 => by
    have := hn.s0; have := hn.t0
    rw [if_neg (by omega), if_neg (by omega)]; rfl
  | j + 1 => by
    have ih := innL_len hn j
    have hne := hn.ne
    rw [innL]
    by_cases c : innP n j
    · rw [if_pos c]
      unfold innP at c
      simp only [List.length_append, List.length_cons, List.length_nil]
      split at ih <;> split at ih <;> (split <;> split <;> omega)
    · rw [if_neg c]
      unfold innP at c
      have c' : (j : Int) = n.s ∨ (j : Int) = n.t := by omega
      split at ih <;> split at ih <;> (split <;> split <;> omega)
theorem innL_full {n : Net} (hn : OkNet n) : ((innL n n.n.toNat).length : Int) = n.n - 2 := by
  have := innL_len hn n.n.toNat
  have := hn.s0; have := hn.s1; have := hn.t0; have := hn.t1
  rw [if_pos (by omega), if_pos (by omega)] at *
  omega
theorem kepL_len (n : Net) : ∀ j, (kepL n j).length ≤ j
  | 0 => Nat.le_refl _
  | j + 1 => by
    have := kepL_len n j
    rw [kepL]
    split
    · simp only [List.length_append, List.length_cons, List.length_nil]; omega
    · omega
theorem splA_len (n : Net) : (splA n).length = (innL n n.n.toNat).length + (kepL n n.as.length).length := by unfold splA; simp
theorem splA_inn {n : Net} {i : Nat} (h : i < (innL n n.n.toNat).length) : (splA n).getD i El.d = (innL n n.n.toNat).getD i El.d := by
  unfold splA
  rw [List.getD_eq_getElem?_getD, List.getElem?_append_left h, ← List.getD_eq_getElem?_getD]
theorem splA_kep {n : Net} {i : Nat} (h : i < (kepL n n.as.length).length) : (splA n).getD ((innL n n.n.toNat).length + i) El.d = kepA n ((kepL n n.as.length).getD i 0) := by
  unfold splA
  rw [List.getD_eq_getElem?_getD, List.getElem?_append_right (by omega), Nat.add_sub_cancel_left]
  simp [List.getD_eq_getElem?_getD, h]
theorem spl_arc {n : Net} {i : Nat} (h : i < (splA n).length) : (∃ k : Nat, k < n.n.toNat ∧ innP n k ∧ (splA n).getD i El.d = ⟨2 * (k : Int), 2 * (k : Int) + 1, 1⟩) ∨ ∃ k : Nat, k < n.as.length ∧ kepP n k ∧ (splA n).getD i El.d = ⟨2 * (n.as.getD k El.d).f + 1, 2 * (n.as.getD k El.d).t, 12⟩ := by
  have hm : (splA n).getD i El.d ∈ splA n := mem_getD h
  generalize (splA n).getD i El.d = a at hm ⊢
  unfold splA at hm
  rcases List.mem_append.1 hm with hm | hm
  · exact .inl (innL_mem hm)
  · obtain ⟨x, hx, rfl⟩ := List.mem_map.1 hm
    obtain ⟨k, hk, h1, rfl⟩ := kepL_mem hx
    exact .inr ⟨k, hk, h1, by unfold kepA; rw [Int.toNat_natCast]⟩
theorem spl_ok {n : Net} (h : SplG n) : OkNet (splN n) := by
  have hn := h.net
  have n6 := h.n6; have m30 := h.m30
  have s0 := hn.s0; have s1 := hn.s1; have t0 := hn.t0; have t1 := hn.t1
  have hl := innL_full hn
  have hk := kepL_len n n.as.length
  refine ⟨⟨by dsimp only [splN]; omega, by dsimp only [splN]; omega, by dsimp only [splN]; rw [splA_len]; omega, fun a ha => ?_⟩, by dsimp only [splN]; omega, by dsimp only [splN]; omega, by dsimp only [splN]; omega, by dsimp only [splN]; omega, by dsimp only [splN]; omega⟩
  obtain ⟨i, hi, rfl⟩ := getD_of_mem (d := El.d) ha
  dsimp only [splN] at hi ⊢
  rcases spl_arc hi with ⟨k, k1, k2, e⟩ | ⟨k, k1, k2, e⟩
  · rw [e]
    exact ⟨by dsimp only; omega, by dsimp only; omega, by dsimp only; omega, by dsimp only; omega, by dsimp only; omega, by dsimp only; omega⟩
  · have hG := hn.arc k1
    have f0 := hG.f0; have f1 := hG.f1; have g0 := hG.t0; have g1 := hG.t1
    rw [e]
    exact ⟨by dsimp only; omega, by dsimp only; omega, by dsimp only; omega, by dsimp only; omega, by dsimp only; omega, by dsimp only; omega⟩
theorem split_nodes (n : Net) : (SplG n ∧ paths_split_F n = some (splN n, kepL n n.as.length, 0)) ∨ (¬ SplG n ∧ ∃ e, e ≠ 0 ∧ paths_split_F n = some (⟨0, 0, 0, []⟩, [], e)) := by
  unfold paths_split_F
  rcases checkNet_cases n with ⟨hn, e⟩ | ⟨hn, e, he, hh⟩
  · have s0 := hn.s0; have s1 := hn.s1; have t0 := hn.t0; have t1 := hn.t1
    rw [e, bind_some', if_neg (by decide)]
    by_cases c1 : 6 < n.n
    · rw [if_pos c1]
      exact .inr ⟨fun h => by have := h.n6; omega, 2, by decide, rfl⟩
    rw [if_neg c1]
    by_cases c2 : 30 < ((n.as.length : Nat) : Int)
    · rw [if_pos c2]
      exact .inr ⟨fun h => by have := h.m30; omega, 2, by decide, rfl⟩
    rw [if_neg c2, ck_some (inI_small (by omega) (by omega)), ck_some (inI_small (by omega) (by omega)), ck_some (inI_small (by omega) (by omega)), ck_some (inI_small (by omega) (by omega)), ck_some (inI_small (by omega) (by omega))]
    obtain ⟨l1, e1, h1⟩ := forN_inv (f := paths_split_B1 n) (fun j (l : List Arc) => l = innL n j) (n := n.n.toNat) (k := 0) (s := []) rfl fun j l _ hj hI => by
      subst hI
      have hle := innL_len hn j
      unfold paths_split_B1
      rw [innL]
      by_cases q1 : ((j : Nat) : Int) ≠ n.s
      · rw [if_pos q1]
        by_cases q2 : ((j : Nat) : Int) ≠ n.t
        · rw [if_pos q2, ck_some (inI_small (by omega) (by omega)), ck_some (inI_small (by omega) (by omega)), ck_some (by split at hle <;> split at hle <;> omega), if_pos ⟨q1, q2⟩]
          exact ⟨_, rfl, rfl⟩
        · rw [if_neg q2, if_neg (fun z => q2 z.2)]
          exact ⟨_, rfl, rfl⟩
      · rw [if_neg q1, if_neg (fun z => q1 z.1)]
        exact ⟨_, rfl, rfl⟩
    rw [Nat.zero_add] at h1
    subst h1
    have hli := innL_full hn
    rw [e1, bind_some']
    obtain ⟨q, e2, h2⟩ := forC_or (f := paths_split_B2 n) (fun j (τ : List Arc × List Int) => τ = (innL n n.n.toNat ++ (kepL n j).map (kepA n), kepL n j) ∧ ∀ k, k < j → ¬ ((n.as.getD k El.d).f = n.s ∧ (n.as.getD k El.d).t = n.t)) (fun q => (q = .go (splA n, kepL n n.as.length) ∧ ∀ k, k < n.as.length → ¬ ((n.as.getD k El.d).f = n.s ∧ (n.as.getD k El.d).t = n.t)) ∨ (q = .ret (⟨0, 0, 0, []⟩, [], 9) ∧ ∃ k, k < n.as.length ∧ (n.as.getD k El.d).f = n.s ∧ (n.as.getD k El.d).t = n.t)) (n := n.as.length) (k := 0) (s := (innL n n.n.toNat, [])) ⟨by simp [kepL], fun k hk => absurd hk (by omega)⟩ (fun j τ _ hj ⟨i1, i2⟩ => by
      subst i1
      have hG := hn.arc (k := j) (by omega)
      have f0 := hG.f0; have f1 := hG.f1; have g0 := hG.t0; have g1 := hG.t1
      have hkl := kepL_len n j
      unfold paths_split_B2
      dsimp only
      by_cases d : (n.as.getD j El.d).f = n.s ∧ (n.as.getD j El.d).t = n.t
      · rw [if_pos d.1, if_pos d.2, bind_some']
        exact .inr (.inr ⟨_, rfl, .inr ⟨rfl, j, by omega, d.1, d.2⟩⟩)
      · have e3 : (if (n.as.getD j El.d).f = n.s then if (n.as.getD j El.d).t = n.t then some (Ex.ret (Ct.ret ((⟨0, 0, 0, []⟩ : Net), ([] : List Int), (9 : Int)))) else some (.go ()) else some (.go ()) : Option (Ex Unit (Ct ((List Arc) × (List Int)) (Net × (List Int) × Int)))) = some (.go ()) := by
          by_cases q : (n.as.getD j El.d).f = n.s
          · rw [if_pos q, if_neg (fun z => d ⟨q, z⟩)]
          · rw [if_neg q]
        have nxt : ∀ k, k < j + 1 → ¬ ((n.as.getD k El.d).f = n.s ∧ (n.as.getD k El.d).t = n.t) := fun k hk => by
          by_cases ek : k = j
          · subst ek; exact d
          · exact i2 k (by omega)
        rw [e3, bind_some']
        dsimp only
        rw [kepL]
        by_cases q1 : (n.as.getD j El.d).f ≠ n.t
        · rw [if_pos q1]
          by_cases q2 : (n.as.getD j El.d).t ≠ n.s
          · rw [if_pos q2]
            by_cases q3 : (n.as.getD j El.d).f ≠ (n.as.getD j El.d).t
            · rw [if_pos q3, ck_some (inI_small (by omega) (by omega)), ck_some (inI_small (by omega) (by omega)), ck_some (inI_small (by omega) (by omega)), ck_some (by rw [List.length_append, List.length_map]; omega), ck_some (by omega), if_pos ⟨q1, q2, q3⟩]
              refine .inl ⟨_, rfl, ?_, nxt⟩
              rw [List.map_append, List.append_assoc]
              rfl
            · rw [if_neg q3, if_neg (fun z => q3 z.2.2)]
              exact .inl ⟨_, rfl, rfl, nxt⟩
          · rw [if_neg q2, if_neg (fun z => q2 z.2.1)]
            exact .inl ⟨_, rfl, rfl, nxt⟩
        · rw [if_neg q1, if_neg (fun z => q1 z.1)]
          exact .inl ⟨_, rfl, rfl, nxt⟩) (fun τ ⟨i1, i2⟩ => .inl ⟨by rw [i1, Nat.zero_add]; rfl, fun k hk => i2 k (by omega)⟩)
    rw [e2, bind_some']
    rcases h2 with ⟨rfl, hd⟩ | ⟨rfl, k, hk, h3, h4⟩
    · exact .inl ⟨⟨hn, by omega, by omega, hd⟩, rfl⟩
    · exact .inr ⟨fun h => h.dir k hk ⟨h3, h4⟩, 9, by decide, rfl⟩
  · rw [hh, bind_some', if_pos he]
    exact .inr ⟨fun h => hn h.net, e, he, rfl⟩
end Go.Proofs.Ytlelfifbmckhgaa
