/- How many trees span a graph: the determinant of its table of degrees, with and without an arc. No program. -/
import Derived.Test.YtdpkdicciclobaaPbar
namespace Go.Proofs.Ytdpkdicciclobaa
open Go Go.Proofs.Ytdpkdicciclobaa.Sx
set_option linter.unusedVariables false
set_option linter.unusedSimpArgs false
/-! ### sums of rows -/
theorem dt_rsum (n : Nat) (a : Nat → Nat → Int) : dt (n + 1) (rset a n fun j => tot (fun i => a i j) (n + 1)) = dt (n + 1) a := by
  have step : ∀ m, m ≤ n → dt (n + 1) (rset a n fun j => tot (fun i => a i j) m + a n j) = dt (n + 1) a := by
    intro m
    induction m with
    | zero =>
      intro _
      have e : (fun j => tot (fun i => a i j) 0 + a n j) = a n := by funext j; rw [tot]; omega
      rw [e, rset_self]
    | succ m ih =>
      intro hm
      have e : (fun j => tot (fun i => a i j) (m + 1) + a n j) = fun j => 1 * (tot (fun i => a i j) m + a n j) + 1 * a m j := by funext j; rw [tot]; omega
      rw [e, dt_lin a 1 1 (fun j => tot (fun i => a i j) m + a n j) (a m) (by omega), ih (by omega), dt_alt (a := rset a n (a m)) (r := n) (s := m) (by omega) (by omega) (by omega) fun j _ => by rw [rset_at, rset_ne (by omega)]]
      omega
  exact step n (Nat.le_refl n)
/-- a row taken off all other ones -/
theorem dt_rall (n : Nat) (a : Nat → Nat → Int) : dt (n + 1) (fun i j => if i < n then a i j - a n j else a i j) = dt (n + 1) a := by
  have step : ∀ m, m ≤ n → dt (n + 1) (fun i j => if i < m then a i j - a n j else a i j) = dt (n + 1) a := by
    intro m
    induction m with
    | zero => intro _; exact dt_congr fun i j _ _ => if_neg (by omega)
    | succ m ih =>
      intro hm
      rw [← ih (by omega)]
      let b : Nat → Nat → Int := fun i j => if i < m then a i j - a n j else a i j
      have e : (fun i j => if i < m + 1 then a i j - a n j else a i j) = rset b m fun j => b m j + -1 * b n j := by
        funext i j
        have bm : b m j = a m j := if_neg (by omega)
        have bn : b n j = a n j := if_neg (by omega)
        by_cases w : i = m
        · subst w; rw [rset_at, if_pos (by omega), bm, bn]; omega
        · rw [rset_ne w]
          show _ = if i < m then a i j - a n j else a i j
          by_cases z : i < m
          · rw [if_pos z, if_pos (by omega)]
          · rw [if_neg z, if_neg (by omega)]
      rw [e, dt_radd (by omega) (by omega) (by omega)]
  exact step n (Nat.le_refl n)
theorem dt_rscale {n r : Nat} (h : r < n) (a : Nat → Nat → Int) (c : Int) (v : Nat → Int) : dt n (rset a r fun j => c * v j) = c * dt n (rset a r v) := by
  have e : (fun j => c * v j) = fun j => c * v j + 0 * v j := by funext j; omega
  rw [e, dt_lin a c 0 v v h]; omega
/-- lines that come to nothing: with 1 added everywhere -/
theorem dt_ones {n : Nat} {L : Nat → Nat → Int} (hr : ∀ i, i < n + 1 → tot (fun j => L i j) (n + 1) = 0) (hc : ∀ j, j < n + 1 → tot (fun i => L i j) (n + 1) = 0) :
    dt (n + 1) (fun i j => L i j + 1) = ((n : Int) + 1) * ((n : Int) + 1) * dt n L := by
  have h1 : dt (n + 1) (fun i j => L i j + 1) = ((n : Int) + 1) * dt (n + 1) (rset (fun i j => L i j + 1) n fun _ => 1) := by
    rw [← dt_rsum, ← dt_rscale (by omega)]
    refine dt_congr fun i j hi hj => ?_
    by_cases w : i = n
    · subst w
      rw [rset_at, rset_at, tot_add, hc j hj, tot_const]; omega
    · rw [rset_ne w, rset_ne w]
  have h2 : dt (n + 1) (rset (fun i j => L i j + 1) n fun _ => 1) = dt (n + 1) (rset L n fun _ => 1) := by
    rw [← dt_rall n (rset (fun i j => L i j + 1) n fun _ => 1)]
    refine dt_congr fun i j hi hj => ?_
    by_cases w : i = n
    · subst w; rw [if_neg (by omega), rset_at, rset_at]
    · rw [if_pos (by omega), rset_ne w, rset_at, rset_ne w]; omega
  have h3 : dt (n + 1) (rset L n fun _ => 1) = ((n : Int) + 1) * dt n L := by
    rw [← dt_turn, ← dt_rsum n (fun i j => rset L n (fun _ => 1) j i)]
    rw [dt_last (n := n) (a := rset (fun i j => rset L n (fun _ => 1) j i) n fun j => tot (fun i => rset L n (fun _ => 1) j i) (n + 1)) fun j hj => by
      rw [rset_at]
      exact Eq.trans (tot_congr fun i _ => rset_ne (by omega)) (hr j (by omega))]
    rw [rset_at, tot_congr (f := fun i => rset L n (fun _ => 1) n i) (g := fun _ => 1) fun i _ => rset_at L n (fun _ => 1) i, tot_const, ← dt_turn n L]
    congr 1
    · omega
    · exact dt_congr fun i j hi hj => by rw [rset_ne (by omega), rset_ne (by omega)]
  rw [h1, h2, h3, Int.mul_assoc]
/-- two lines exchanged, and two columns -/
def sw (b c i : Nat) : Nat := if i = b then c else if i = c then b else i
theorem sw_sw (b c i : Nat) : sw b c (sw b c i) = i := by unfold sw; split <;> split <;> (try split) <;> omega
theorem sw_lt {b c i n : Nat} (hb : b < n) (hc : c < n) (h : i < n) : sw b c i < n := by unfold sw; split <;> (try split) <;> omega
theorem sw_eq {b c i j : Nat} : sw b c i = j ↔ i = sw b c j := ⟨fun h => by rw [← h, sw_sw], fun h => by rw [h, sw_sw]⟩
theorem dt_sw {n b c : Nat} (hb : b < n) (hc : c < n) (a : Nat → Nat → Int) : dt n (fun i j => a (sw b c i) (sw b c j)) = dt n a := by
  by_cases w : b = c
  · have e : ∀ i, sw b c i = i := fun i => by unfold sw; split <;> (try split) <;> omega
    exact dt_congr fun i j _ _ => by rw [e, e]
  · have h1 := dt_rswap hb hc w fun i j => a i (sw b c j)
    have h2 := dt_rswap hb hc w fun i j => a j i
    rw [dt_turn n a] at h2
    have e1 : dt n (fun i j => a (sw b c i) (sw b c j)) = dt n (rswap (fun i j => a i (sw b c j)) b c) := rfl
    have e2 : dt n (fun i j => a i (sw b c j)) = dt n (rswap (fun i j => a j i) b c) := by rw [← dt_turn]; rfl
    rw [e1, h1, e2, h2]; omega
/-! ### the table of degrees -/
def ux (e : Nat × Nat) (i : Nat) : Int := (if i = e.1 then 1 else 0) - if i = e.2 then 1 else 0
def lapP : List (Nat × Nat) → Nat → Nat → Int
  | [], _, _ => 0
  | e :: l, i, j => ux e i * ux e j + lapP l i j
def tau (n : Nat) (l : List (Nat × Nat)) : Int := dt n (lapP l)
def InP (n : Nat) (l : List (Nat × Nat)) : Prop := ∀ e, e ∈ l → e.1 < n ∧ e.2 < n
theorem tot_ux {n : Nat} {e : Nat × Nat} (h : e.1 < n ∧ e.2 < n) : tot (ux e) n = 0 := by
  have one : ∀ {k}, k < n → tot (fun i => if i = k then 1 else 0) n = 1 := fun {k} hk => by
    rw [tot_single (k := k) hk fun i _ hne => if_neg hne, if_pos rfl]
  have : tot (ux e) n = tot (fun i => if i = e.1 then 1 else 0) n - tot (fun i => if i = e.2 then 1 else 0) n := tot_sub _ _ _
  rw [this, one h.1, one h.2]; rfl
theorem lap_sym : ∀ (l : List (Nat × Nat)) (i j : Nat), lapP l i j = lapP l j i
  | [], _, _ => rfl
  | e :: l, i, j => by rw [lapP, lapP, lap_sym l i j, Int.mul_comm]
theorem lap_row {n : Nat} : ∀ {l : List (Nat × Nat)}, InP n l → ∀ i, tot (fun j => lapP l i j) n = 0
  | [], _, _ => tot_zero fun _ _ => rfl
  | e :: l, h, i => by
    have : tot (fun j => lapP (e :: l) i j) n = tot (fun j => ux e i * ux e j) n + tot (fun j => lapP l i j) n := tot_add _ _ _
    rw [this, tot_mul, tot_ux (h e (by simp)), lap_row (fun x hx => h x (by simp [hx])) i]; omega
theorem lap_col {n : Nat} {l : List (Nat × Nat)} (h : InP n l) (j : Nat) : tot (fun i => lapP l i j) n = 0 := by
  rw [tot_congr (g := fun i => lapP l j i) fun i _ => lap_sym l i j]; exact lap_row h j
def mapP (p : Nat → Nat) (l : List (Nat × Nat)) : List (Nat × Nat) := l.map fun e => (p e.1, p e.2)
theorem mapP_in {n m : Nat} {p : Nat → Nat} {l : List (Nat × Nat)} (h : InP n l) (hp : ∀ i, i < n → p i < m) : InP m (mapP p l) := fun e he => by
  obtain ⟨x, hx, rfl⟩ := List.mem_map.1 he
  exact ⟨hp _ (h x hx).1, hp _ (h x hx).2⟩
theorem lap_sw (b c : Nat) : ∀ (l : List (Nat × Nat)) (i j : Nat), lapP (mapP (sw b c) l) i j = lapP l (sw b c i) (sw b c j)
  | [], _, _ => rfl
  | e :: l, i, j => by
    have u : ∀ i, ux (sw b c e.1, sw b c e.2) i = ux e (sw b c i) := fun i => by
      unfold ux
      dsimp only
      by_cases h1 : sw b c i = e.1
      · rw [if_pos h1, if_pos (sw_eq.1 h1)]
        by_cases h2 : sw b c i = e.2
        · rw [if_pos h2, if_pos (sw_eq.1 h2)]
        · rw [if_neg h2, if_neg fun w => h2 (sw_eq.2 w)]
      · rw [if_neg h1, if_neg fun w => h1 (sw_eq.2 w)]
        by_cases h2 : sw b c i = e.2
        · rw [if_pos h2, if_pos (sw_eq.1 h2)]
        · rw [if_neg h2, if_neg fun w => h2 (sw_eq.2 w)]
    show ux (sw b c e.1, sw b c e.2) i * ux (sw b c e.1, sw b c e.2) j + lapP (mapP (sw b c) l) i j = _
    rw [u, u, lap_sw b c l]; rfl
/-- other names change nothing -/
theorem tau_sw {n b c : Nat} {l : List (Nat × Nat)} (h : InP (n + 1) l) (hb : b < n + 1) (hc : c < n + 1) : tau n (mapP (sw b c) l) = tau n l := by
  have h' := mapP_in h fun i hi => sw_lt hb hc hi
  have e1 := dt_ones (fun i _ => lap_row h i) (fun j _ => lap_col h j)
  have e2 := dt_ones (fun i _ => lap_row h' i) (fun j _ => lap_col h' j)
  have e3 : dt (n + 1) (fun i j => lapP (mapP (sw b c) l) i j + 1) = dt (n + 1) fun i j => lapP l i j + 1 := by
    rw [← dt_sw hb hc fun i j => lapP l i j + 1]
    exact dt_congr fun i j _ _ => by rw [lap_sw]
  rw [e3, e1] at e2
  have h0 : ((n : Int) + 1) * ((n : Int) + 1) ≠ 0 := Int.mul_ne_zero (by omega) (by omega)
  exact (Int.eq_of_mul_eq_mul_left h0 e2).symm
/-- the place of a node once two nodes are one -/
def mrg (n a b x : Nat) : Nat := if x = b then a else if x = n then b else x
theorem mapP_mapP (p q : Nat → Nat) (l : List (Nat × Nat)) : mapP p (mapP q l) = mapP (fun i => p (q i)) l := by
  unfold mapP; rw [List.map_map]; rfl
/-- an arc from the last node -/
theorem tau_last {n a : Nat} {e : Nat × Nat} {l : List (Nat × Nat)} (h : InP (n + 2) l) (ha : a < n + 1) (he : e = (a, n + 1) ∨ e = (n + 1, a)) :
    tau (n + 1) (e :: l) = tau (n + 1) l + tau n (mapP (fun x => if x = n + 1 then a else x) l) := by
  have hu : ∀ i j, i < n + 1 → j < n + 1 → ux e i * ux e j = if i = a then (if j = a then 1 else 0) else 0 := fun i j hi hj => by
    rcases he with rfl | rfl
    · unfold ux
      dsimp only
      rw [if_neg (show ¬ i = n + 1 by omega), if_neg (show ¬ j = n + 1 by omega)]
      by_cases w : i = a
      · by_cases z : j = a
        · simp [w, z]
        · simp [w, z]
      · rw [if_neg w, if_neg w]; omega
    · unfold ux
      dsimp only
      rw [if_neg (show ¬ i = n + 1 by omega), if_neg (show ¬ j = n + 1 by omega)]
      by_cases w : i = a
      · by_cases z : j = a
        · simp [w, z]
        · simp [w, z]
      · rw [if_neg w, if_neg w]; omega
  have h1 : tau (n + 1) (e :: l) = tau (n + 1) l + dt (n + 1) (rset (lapP l) a fun j => if j = a then 1 else 0) := by
    have : tau (n + 1) (e :: l) = dt (n + 1) (rset (lapP l) a fun j => 1 * lapP l a j + 1 * (if j = a then 1 else 0)) := dt_congr fun i j hi hj => by
      show ux e i * ux e j + lapP l i j = _
      rw [hu i j hi hj]
      by_cases w : i = a
      · subst w; rw [rset_at, if_pos rfl]; omega
      · rw [rset_ne w, if_neg w]; omega
    rw [this, dt_lin _ 1 1 (lapP l a) (fun j => if j = a then 1 else 0) ha, rset_self]
    unfold tau; omega
  rw [h1]
  congr 1
  -- the row and the column of a moved to the end
  rw [← dt_sw (b := a) (c := n) ha (by omega), dt_last (n := n) fun j hj => ?_]
  · have e1 : sw a n n = a := by unfold sw; split <;> (try split) <;> omega
    rw [e1, rset_at, if_pos rfl, Int.one_mul]
    have hin : InP (n + 1) (mapP (fun x => if x = n + 1 then a else x) l) := mapP_in h fun i hi => by
      (try dsimp only); split <;> omega
    rw [← tau_sw hin ha (show n < n + 1 by omega)]
    refine dt_congr fun i j hi hj => ?_
    rw [lap_sw]
    have na : ∀ i, i < n → sw a n i ≠ a ∧ sw a n i < n + 1 := fun i hi => by unfold sw; split <;> (try split) <;> omega
    rw [rset_ne (na i hi).1]
    have key : ∀ (l : List (Nat × Nat)) x y, x ≠ a → x < n + 1 → y ≠ a → y < n + 1 → lapP l x y = lapP (mapP (fun x => if x = n + 1 then a else x) l) x y := fun l x y hx hxn hy hyn => by
      induction l with
      | nil => rfl
      | cons e l ih =>
        have u : ∀ x, x ≠ a → x < n + 1 → ux (if e.1 = n + 1 then a else e.1, if e.2 = n + 1 then a else e.2) x = ux e x := fun x hx hxn => by
          unfold ux
          dsimp only
          have t : ∀ k, (if x = (if k = n + 1 then a else k) then (1 : Int) else 0) = if x = k then 1 else 0 := fun k => by
            by_cases w : k = n + 1
            · rw [if_pos w, if_neg hx, if_neg (by omega)]
            · rw [if_neg w]
          rw [t, t]
        show ux e x * ux e y + lapP l x y = ux (if e.1 = n + 1 then a else e.1, if e.2 = n + 1 then a else e.2) x * ux (if e.1 = n + 1 then a else e.1, if e.2 = n + 1 then a else e.2) y + lapP (mapP (fun x => if x = n + 1 then a else x) l) x y
        rw [u x hx hxn, u y hy hyn, ih]
    exact key l _ _ (na i hi).1 (na i hi).2 (na j hj).1 (na j hj).2
  · have e1 : sw a n n = a := by unfold sw; split <;> (try split) <;> omega
    rw [e1, rset_at, if_neg]
    unfold sw; split <;> (try split) <;> omega
/-- as many as without an arc, and as many as with its ends being one -/
theorem tau_less {n a b : Nat} {e : Nat × Nat} {l : List (Nat × Nat)} (h : InP (n + 2) l) (hab : a < b) (hb : b < n + 2) (he : e = (a, b) ∨ e = (b, a)) :
    tau (n + 1) (e :: l) = tau (n + 1) l + tau n (mapP (mrg (n + 1) a b) l) := by
  have hel : InP (n + 2) (e :: l) := fun x hx => by
    rcases List.mem_cons.1 hx with rfl | hx
    · rcases he with rfl | rfl
      · exact ⟨by omega, hb⟩
      · exact ⟨hb, by omega⟩
    · exact h x hx
  have s1 : sw b (n + 1) a = a := by unfold sw; split <;> (try split) <;> omega
  have s2 : sw b (n + 1) b = n + 1 := if_pos rfl
  have h1 := tau_sw hel hb (show n + 1 < n + 2 by omega)
  have h2 := tau_sw h hb (show n + 1 < n + 2 by omega)
  rw [← h1, ← h2]
  have := tau_last (n := n) (a := a) (e := (sw b (n + 1) e.1, sw b (n + 1) e.2)) (l := mapP (sw b (n + 1)) l) (mapP_in h fun i hi => sw_lt hb (by omega) hi) (by omega) (by
    rcases he with rfl | rfl
    · exact .inl (by dsimp only; rw [s1, s2])
    · exact .inr (by dsimp only; rw [s1, s2]))
  refine Eq.trans this ?_
  rw [mapP_mapP]
  congr 2
  unfold mapP
  refine List.map_congr_left fun x hx => ?_
  have t : ∀ k, k < n + 2 → (if sw b (n + 1) k = n + 1 then a else sw b (n + 1) k) = mrg (n + 1) a b k := fun k hk => by
    unfold sw mrg
    by_cases w : k = b
    · simp [w]
    · rw [if_neg w, if_neg w]
      by_cases z : k = n + 1
      · have zb : b ≠ n + 1 := fun q => w (by omega)
        simp [z, zb]
      · simp [z]
  have e1 := t _ (h x hx).1
  have e2 := t _ (h x hx).2
  dsimp only
  rw [e1, e2]
/-- a loop counts nothing -/
theorem tau_loop (n : Nat) {e : Nat × Nat} (he : e.1 = e.2) (l : List (Nat × Nat)) : tau n (e :: l) = tau n l := dt_congr fun i j _ _ => by
  show ux e i * ux e j + lapP l i j = lapP l i j
  have : ∀ i, ux e i = 0 := fun i => by unfold ux; rw [he]; omega
  rw [this, this]; omega
theorem lap_erase : ∀ {l : List (Nat × Nat)} {k : Nat} (i j : Nat), k < l.length → lapP (l.getD k (0, 0) :: l.eraseIdx k) i j = lapP l i j
  | [], _, _, _, h => absurd h (by simp)
  | e :: l, 0, i, j, _ => rfl
  | e :: l, k + 1, i, j, h => by
    have := lap_erase (l := l) (k := k) i j (by simpa using h)
    show ux (l.getD k (0, 0)) i * ux (l.getD k (0, 0)) j + (ux e i * ux e j + lapP (l.eraseIdx k) i j) = ux e i * ux e j + lapP l i j
    rw [← this]
    show _ = ux e i * ux e j + (ux (l.getD k (0, 0)) i * ux (l.getD k (0, 0)) j + lapP (l.eraseIdx k) i j)
    omega
theorem tau_erase {n k : Nat} {l : List (Nat × Nat)} (h : k < l.length) : tau n (l.getD k (0, 0) :: l.eraseIdx k) = tau n l := dt_congr fun i j _ _ => lap_erase i j h
/-! ### how great a determinant can be, and how many trees there are at the most -/
theorem pow_bound : ∀ x : Nat, x ≤ 120 → x ^ 10 ≤ 2 ^ (x + 25) := by decide
def nsum (f : Nat → Nat) : Nat → Nat
  | 0 => 0
  | n + 1 => nsum f n + f n
theorem cpr_pow {f : Nat → Nat} : ∀ {n : Nat}, nsum f n ≤ 120 → cpr f n ^ 10 ≤ 2 ^ (nsum f n + 25 * n)
  | 0, _ => by simp [cpr, nsum]
  | n + 1, h => by
    rw [nsum] at h
    have h1 := cpr_pow (f := f) (n := n) (by omega)
    have h2 := pow_bound (f n) (by omega)
    rw [cpr, nsum, Nat.mul_pow, show nsum f n + f n + 25 * (n + 1) = (nsum f n + 25 * n) + (f n + 25) by omega, Nat.pow_add 2 (nsum f n + 25 * n)]
    exact Nat.mul_le_mul h1 h2
theorem cpr_small' (e : Nat) {f : Nat → Nat} {n : Nat} (h : nsum f n ≤ 120) (hn : nsum f n + 25 * n ≤ e * 10) : cpr f n ≤ 2 ^ e := by
  have h1 := cpr_pow h
  have h2 : 2 ^ (nsum f n + 25 * n) ≤ 2 ^ (e * 10) := Nat.pow_le_pow_right (by decide) hn
  rw [Nat.pow_mul] at h2
  refine Classical.byContradiction fun z => ?_
  have h3 : (2 ^ e) ^ 10 < cpr f n ^ 10 := Nat.pow_lt_pow_left (Nat.lt_of_not_le z) (by decide)
  exact absurd (Nat.le_trans h1 h2) (Nat.not_le_of_lt h3)
theorem cpr_small {f : Nat → Nat} {n : Nat} (h : nsum f n ≤ 120) (hn : n ≤ 6) : cpr f n ≤ 2 ^ 27 := cpr_small' 27 h (by omega)
end Go.Proofs.Ytdpkdicciclobaa
