/- Package least: Of answers what parts a graph at all (Stoer, Wagner). -/
import Derived.Test.YtdpkdicciclobaaPorder
import Derived.Test.YtdpkdicciclobaaPover
import Derived.Test.YtdpkdicciclobaaGleast
namespace Go.Proofs.Ytdpkdicciclobaa
open Go Go.Proofs.Ytdpkdicciclobaa.Sx
set_option linter.unusedVariables false
set_option linter.unusedSimpArgs false
/-! ### lists of nodes -/
def inL (l : List Int) (x : Nat) : Bool := decide ((x : Int) ∈ l)
theorem cnt_one_more {S T : Nat → Bool} {u : Nat} : ∀ {n : Nat}, u < n → S u = true → T u = false → (∀ x, x < n → x ≠ u → T x = S x) → cnt T n + 1 = cnt S n
  | 0, h, _, _, _ => absurd h (by omega)
  | n + 1, h, h1, h2, h3 => by
    rw [cnt, cnt]
    by_cases c : u = n
    · subst c
      have : cnt T u = cnt S u := Nat.le_antisymm (cnt_mono fun x hx e => by rw [← h3 x (by omega) (by omega)]; exact e) (cnt_mono fun x hx e => by rw [h3 x (by omega) (by omega)]; exact e)
      rw [h1, h2, this]; simp
    · have := cnt_one_more (n := n) (by omega) h1 h2 fun x hx hne => h3 x (by omega) hne
      rw [h3 n (by omega) (fun w => c w.symm)]
      omega
theorem cnt_inL : ∀ {l : List Int}, l.Nodup → (∀ x, x ∈ l → 0 ≤ x ∧ x < 12) → cnt (inL l) 12 = l.length
  | [], _, _ => by
    have : ∀ k, cnt (inL []) k = 0 := fun k => by
      induction k with
      | zero => rfl
      | succ k ih => rw [cnt, ih]; simp [inL]
    rw [this]; rfl
  | a :: l, hd, hr => by
    obtain ⟨h1, h2⟩ := List.nodup_cons.1 hd
    have ra := hr a (by simp)
    have ih := cnt_inL (l := l) h2 fun x hx => hr x (by simp [hx])
    have := cnt_one_more (S := inL (a :: l)) (T := inL l) (u := a.toNat) (n := 12) (by omega) (by unfold inL; exact decide_eq_true (by simp; omega)) (by unfold inL; rw [show ((a.toNat : Nat) : Int) = a by omega]; exact decide_eq_false h1) fun x hx hne => by
      unfold inL
      have : (x : Int) ≠ a := by omega
      simp [this]
    rw [List.length_cons]; omega
theorem nodup_getD {l : List Int} (h : l.Nodup) {i j : Nat} (hi : i < l.length) (hj : j < l.length) (e : l.getD i 0 = l.getD j 0) : i = j := by
  rw [List.getD_eq_getElem?_getD, List.getD_eq_getElem?_getD, List.getElem?_eq_getElem hi, List.getElem?_eq_getElem hj] at e
  exact (List.getElem_inj h).1 e
/-! ### the order -/
abbrev WF (f : Nat → Int) (i j : Nat) : Int := f (i * 12 + j)
structure Ord (f : Nat → Int) (l : List Int) (v : Nat → Nat) (p : Nat) : Prop where
  mem : ∀ a, a < p → ((v a : Nat) : Int) ∈ l
  inj : ∀ a b, a < p → b < p → v a = v b → a = b
  ma : ∀ q, q < p → ∀ x : Nat, (x : Int) ∈ l → (∀ a, a < q → v a ≠ x) → tot (fun a => WF f (v a) x) q ≤ tot (fun a => WF f (v a) (v q)) q
structure OrdI (f : Nat → Int) (l : List Int) (B : Int) (v : Nat → Nat) (p : Nat) (h : Nat → Int) (d : Nat → Bool) (last ahead : Int) : Prop where
  o : Ord f l v p
  dn : ∀ x : Nat, x < 12 → (d x = true ↔ ∃ a, a < p ∧ v a = x)
  hg : ∀ x : Nat, (x : Int) ∈ l → (∀ a, a < p → v a ≠ x) → h x = tot (fun a => WF f (v a) x) p
  hd : ∀ q, q < p → h (v q) = tot (fun a => WF f (v a) (v q)) q
  la : 1 ≤ p → last = ((v (p - 1) : Nat) : Int)
  ah : 2 ≤ p → ahead = ((v (p - 2) : Nat) : Int)
  cn : cnt d 12 = p
  bd : ∀ x : Nat, x < 12 → 0 ≤ h x ∧ h x ≤ p * B
theorem order_best {l : List Int} (hr : ∀ x, x ∈ l → 0 ≤ x ∧ x < 12) {h : Nat → Int} {d : Nat → Bool} (hex : ∃ x, x ∈ l ∧ d x.toNat = false) :
    ∃ b : Nat, forN (least_order_B2 l h d) l.length 0 (-1) = some (b : Int) ∧ (b : Int) ∈ l ∧ d b = false ∧ ∀ x : Nat, (x : Int) ∈ l → d x = false → h x ≤ h b := by
  obtain ⟨x, e, hI⟩ := forN_inv (f := least_order_B2 l h d) (fun k (x : Int) => (x = -1 ∧ ∀ i, i < k → d (l.getD i 0).toNat = true) ∨ ∃ b : Nat, x = (b : Int) ∧ (b : Int) ∈ l ∧ d b = false ∧ ∀ i, i < k → d (l.getD i 0).toNat = false → h (l.getD i 0).toNat ≤ h b) (n := l.length) (k := 0) (s := -1) (.inl ⟨rfl, fun i hi => absurd hi (by omega)⟩) fun k x _ hk hI => by
    have hk' : k < l.length := by omega
    have hm := mem_getD (d := (0 : Int)) hk'
    have r := hr _ hm
    unfold least_order_B2
    rw [ck_some r]
    by_cases c : d (l.getD k 0).toNat = true
    · rw [if_neg (by rw [c]; decide)]
      refine ⟨x, rfl, hI.imp (fun ⟨a, b⟩ => ⟨a, fun i hi => ?_⟩) fun ⟨b, b1, b2, b3, b4⟩ => ⟨b, b1, b2, b3, fun i hi hd => ?_⟩⟩
      · by_cases q : i = k
        · rw [q]; exact c
        · exact b i (by omega)
      · by_cases q : i = k
        · rw [q, c] at hd; cases hd
        · exact b4 i (by omega) hd
    · have cf : d (l.getD k 0).toNat = false := by simpa using c
      have me : (((l.getD k 0).toNat : Nat) : Int) = l.getD k 0 := by omega
      rw [if_pos (by rw [cf]; rfl)]
      rcases hI with ⟨rfl, hall⟩ | ⟨b, rfl, b2, b3, b4⟩
      · rw [if_pos (by decide)]
        refine ⟨_, rfl, .inr ⟨(l.getD k 0).toNat, me.symm, by rw [me]; exact hm, cf, fun i hi hd => ?_⟩⟩
        by_cases q : i = k
        · rw [q]; exact Int.le_refl _
        · rw [hall i (by omega)] at hd; cases hd
      · have rb := hr _ b2
        rw [if_neg (by omega), ck_some ⟨by omega, by omega⟩, Int.toNat_natCast]
        by_cases c2 : h b < h (l.getD k 0).toNat
        · rw [if_pos c2]
          refine ⟨_, rfl, .inr ⟨(l.getD k 0).toNat, me.symm, by rw [me]; exact hm, cf, fun i hi hd => ?_⟩⟩
          by_cases q : i = k
          · rw [q]; exact Int.le_refl _
          · have := b4 i (by omega) hd; omega
        · rw [if_neg c2]
          refine ⟨_, rfl, .inr ⟨b, rfl, b2, b3, fun i hi hd => ?_⟩⟩
          by_cases q : i = k
          · rw [q]; omega
          · exact b4 i (by omega) hd
  rw [Nat.zero_add] at hI
  rcases hI with ⟨_, hall⟩ | ⟨b, rfl, b2, b3, b4⟩
  · obtain ⟨x, hx, hd⟩ := hex
    obtain ⟨i, hi, rfl⟩ := getD_of_mem (d := (0 : Int)) hx
    rw [hall i hi] at hd; cases hd
  · refine ⟨b, e, b2, b3, fun x hx hd => ?_⟩
    obtain ⟨i, hi, ei⟩ := getD_of_mem (d := (0 : Int)) hx
    have := b4 i hi
    rw [ei, Int.toNat_natCast] at this
    exact this hd
theorem order_add {l : List Int} (hn : l.Nodup) (hr : ∀ x, x ∈ l → 0 ≤ x ∧ x < 12) {f h : Nat → Int} {d : Nat → Bool} {b : Nat} {B P : Int} (hb : b < 12) (hB : ∀ i j, i < 12 → j < 12 → 0 ≤ WF f i j ∧ WF f i j ≤ B) (hh : ∀ x : Nat, x < 12 → 0 ≤ h x ∧ h x ≤ P) (hP : P + B ≤ 1000000000000) :
    ∃ h', forN (least_order_B3 l f d (b : Int)) l.length 0 h = some h' ∧ ∀ x : Nat, x < 12 → h' x = if (x : Int) ∈ l ∧ updF d b true x = false then h x + WF f b x else h x := by
  obtain ⟨h', e, hI⟩ := forN_inv (f := least_order_B3 l f d (b : Int)) (fun k h' => ∀ x : Nat, x < 12 → h' x = if (∃ i, i < k ∧ l.getD i 0 = (x : Int)) ∧ updF d b true x = false then h x + WF f b x else h x) (n := l.length) (k := 0) (s := h) (fun x _ => by rw [if_neg (fun ⟨⟨i, hi, _⟩, _⟩ => absurd hi (by omega))]) fun k h' _ hk hI => by
    have hk' : k < l.length := by omega
    have r := hr _ (mem_getD (d := (0 : Int)) hk')
    have me : (((l.getD k 0).toNat : Nat) : Int) = l.getD k 0 := by omega
    have notyet : ¬ ∃ i, i < k ∧ l.getD i 0 = (((l.getD k 0).toNat : Nat) : Int) := fun ⟨i, hi, ei⟩ => by
      rw [me] at ei
      have := nodup_getD hn (by omega) hk' ei
      omega
    have e1 : h' (l.getD k 0).toNat = h (l.getD k 0).toNat := by rw [hI _ (by omega), if_neg (fun z => notyet z.1)]
    have b1 := hB b (l.getD k 0).toNat hb (by omega)
    have b2 := hh (l.getD k 0).toNat (by omega)
    unfold least_order_B3
    rw [ck_some r, Int.toNat_natCast]
    by_cases c : updF d b true (l.getD k 0).toNat = true
    · rw [if_neg (by rw [c]; decide)]
      refine ⟨h', rfl, fun x hx => ?_⟩
      rw [hI x hx]
      by_cases q : x = (l.getD k 0).toNat
      · rw [q, if_neg (fun z => notyet z.1), if_neg (fun z => by rw [c] at z; cases z.2)]
      · by_cases q2 : (∃ i, i < k ∧ l.getD i 0 = (x : Int)) ∧ updF d b true x = false
        · obtain ⟨⟨i, hi, ei⟩, q3⟩ := q2
          rw [if_pos ⟨⟨i, hi, ei⟩, q3⟩, if_pos ⟨⟨i, by omega, ei⟩, q3⟩]
        · rw [if_neg q2, if_neg (fun ⟨⟨i, hi, ei⟩, z⟩ => by
            by_cases w : i = k
            · subst w; omega
            · exact q2 ⟨⟨i, by omega, ei⟩, z⟩)]
    · have cf : updF d b true (l.getD k 0).toNat = false := by simpa using c
      rw [if_pos (by rw [cf]; rfl), e1, ck_some (show InI (h (l.getD k 0).toNat + WF f b (l.getD k 0).toNat) by unfold InI; omega)]
      refine ⟨_, rfl, fun x hx => ?_⟩
      by_cases q : x = (l.getD k 0).toNat
      · rw [q, if_pos ⟨⟨k, by omega, me.symm⟩, cf⟩]
        show (if (l.getD k 0).toNat = (l.getD k 0).toNat then _ else _) = _
        rw [if_pos rfl]
      · show (if x = (l.getD k 0).toNat then _ else h' x) = _
        rw [if_neg q, hI x hx]
        by_cases q2 : (∃ i, i < k ∧ l.getD i 0 = (x : Int)) ∧ updF d b true x = false
        · obtain ⟨⟨i, hi, ei⟩, q3⟩ := q2
          rw [if_pos ⟨⟨i, hi, ei⟩, q3⟩, if_pos ⟨⟨i, by omega, ei⟩, q3⟩]
        · rw [if_neg q2, if_neg (fun ⟨⟨i, hi, ei⟩, z⟩ => by
            by_cases w : i = k
            · subst w; omega
            · exact q2 ⟨⟨i, by omega, ei⟩, z⟩)]
  refine ⟨h', e, fun x hx => ?_⟩
  rw [hI x hx, Nat.zero_add]
  have eq : (∃ i, i < l.length ∧ l.getD i 0 = (x : Int)) ↔ (x : Int) ∈ l := ⟨fun ⟨i, hi, ei⟩ => by rw [← ei]; exact mem_getD hi, fun z => getD_of_mem z⟩
  by_cases c : (x : Int) ∈ l ∧ updF d b true x = false
  · rw [if_pos c, if_pos ⟨eq.2 c.1, c.2⟩]
  · rw [if_neg c, if_neg (fun z => c ⟨eq.1 z.1, z.2⟩)]
/-- what order answers -/
structure OrdD (f : Nat → Int) (l : List Int) (v : Nat → Nat) (last ahead c : Int) : Prop where
  o : Ord f l v l.length
  all : ∀ x : Nat, (x : Int) ∈ l → ∃ a, a < l.length ∧ v a = x
  la : last = ((v (l.length - 1) : Nat) : Int)
  ah : ahead = ((v (l.length - 2) : Nat) : Int)
  cut : c = tot (fun a => WF f (v a) (v (l.length - 1))) (l.length - 1)
theorem order_ok {l : List Int} (hn : l.Nodup) (hr : ∀ x, x ∈ l → 0 ≤ x ∧ x < 12) (h2 : 2 ≤ l.length) {f : Nat → Int} {B : Int} (hB : ∀ i j, i < 12 → j < 12 → 0 ≤ WF f i j ∧ WF f i j ≤ B) (hBB : B ≤ 10000000000) :
    ∃ last ahead c v, least_order_F l f = some (last, ahead, c, f) ∧ OrdD f l v last ahead c := by
  have hcl := cnt_inL hn hr
  have hl12 : l.length ≤ 12 := by rw [← hcl]; exact cnt_le _ 12
  have B0 : 0 ≤ B := by have := hB 0 0 (by decide) (by decide); omega
  unfold least_order_F
  obtain ⟨⟨h, d, last, ahead⟩, e, v, hI⟩ := forN_inv (f := least_order_B1 l f) (fun p σ => ∃ v, OrdI f l B v p σ.1 σ.2.1 σ.2.2.1 σ.2.2.2) (n := l.length) (k := 0) (s := ((fun _ => 0), (fun _ => false), -1, -1))
    ⟨fun _ => 0, ⟨⟨fun a ha => absurd ha (by omega), fun a b ha => absurd ha (by omega), fun q hq => absurd hq (by omega)⟩, fun x hx => by simp, fun x _ _ => rfl, fun q hq => absurd hq (by omega), fun z => absurd z (by omega), fun z => absurd z (by omega), rfl, fun x _ => by simp⟩⟩ fun p σ _ hp ⟨v, hI⟩ => by
    obtain ⟨h, d, last, ahead⟩ := σ
    dsimp only at hI ⊢
    have hpl : p < l.length := by omega
    have pB : (p : Int) * B ≤ 12 * B := Int.mul_le_mul_of_nonneg_right (by omega) B0
    -- one is not done yet
    have hex : ∃ x, x ∈ l ∧ d x.toNat = false := by
      refine Classical.byContradiction fun hno => ?_
      have : cnt (inL l) 12 ≤ cnt d 12 := cnt_mono fun x hx hm => by
        have hm' := of_decide_eq_true hm
        cases c : d x with
        | true => rfl
        | false => exact absurd ⟨(x : Int), hm', by rw [Int.toNat_natCast]; exact c⟩ hno
      have := hI.cn
      omega
    obtain ⟨b, eb, bm, bd, bmax⟩ := order_best hr (h := h) hex
    have rb := hr _ bm
    have hb12 : b < 12 := by omega
    have fresh : ∀ a, a < p → v a ≠ b := fun a ha z => by
      have := (hI.dn b hb12).2 ⟨a, ha, z⟩
      rw [bd] at this; cases this
    unfold least_order_B1
    dsimp only
    rw [eb, bind_some', ck_some ⟨by omega, by omega⟩]
    obtain ⟨h', e', hh'⟩ := order_add hn hr (f := f) (h := h) (d := d) (b := b) hb12 hB hI.bd (by omega)
    rw [e', bind_some', Int.toNat_natCast]
    have ev : ∀ a, a < p → (if a = p then b else v a) = v a := fun a ha => if_neg (by omega)
    have tv : ∀ q, q ≤ p → ∀ x, tot (fun a => WF f (if a = p then b else v a) x) q = tot (fun a => WF f (v a) x) q := fun q hq x => tot_congr fun a ha => by rw [ev a (by omega)]
    have dlt : ∀ x : Nat, x < 12 → (updF d b true x = true ↔ ∃ a, a < p + 1 ∧ (if a = p then b else v a) = x) := fun x hx => by
      unfold updF
      constructor
      · intro z
        by_cases c : x = b
        · exact ⟨p, by omega, by rw [if_pos rfl, c]⟩
        · rw [if_neg c] at z
          obtain ⟨a, ha, ea⟩ := (hI.dn x hx).1 z
          exact ⟨a, by omega, by rw [ev a ha]; exact ea⟩
      · rintro ⟨a, ha, ea⟩
        by_cases c : a = p
        · rw [if_pos c] at ea; rw [if_pos ea.symm]
        · rw [if_neg c] at ea
          by_cases c2 : x = b
          · rw [if_pos c2]
          · rw [if_neg c2]; exact (hI.dn x hx).2 ⟨a, by omega, ea⟩
    refine ⟨_, rfl, fun a => if a = p then b else v a, ⟨⟨fun a ha => ?_, fun a c ha hc z => ?_, fun q hq x hx hd => ?_⟩, dlt, fun x hx hd => ?_, fun q hq => ?_, fun _ => ?_, fun hp2 => ?_, ?_, fun x hx => ?_⟩⟩
    · by_cases c : a = p
      · rw [if_pos c]; exact bm
      · rw [if_neg c]; exact hI.o.mem a (by omega)
    · by_cases c1 : a = p <;> by_cases c2 : c = p
      · omega
      · rw [if_pos c1, if_neg c2] at z; exact absurd z.symm (fresh c (by omega))
      · rw [if_neg c1, if_pos c2] at z; exact absurd z (fresh a (by omega))
      · rw [if_neg c1, if_neg c2] at z; exact hI.o.inj a c (by omega) (by omega) z
    · rw [tv q (by omega), tv q (by omega)]
      by_cases c : q = p
      · rw [if_pos c, c]
        have hd' : ∀ a, a < p → v a ≠ x := fun a ha => by have := hd a (by omega); rwa [ev a ha] at this
        have rx := hr _ hx
        have nx : d x = false := by
          cases w : d x with
          | false => rfl
          | true => obtain ⟨a, ha, ea⟩ := (hI.dn x (by omega)).1 w; exact absurd ea (hd' a ha)
        rw [← hI.hg x hx hd', ← hI.hg b bm fresh]
        exact bmax x hx nx
      · rw [if_neg c]
        exact hI.o.ma q (by omega) x hx fun a ha => by have := hd a ha; rwa [ev a (by omega)] at this
    · have rx := hr _ hx
      have nd : updF d b true x = false := by
        cases w : updF d b true x with
        | false => rfl
        | true => obtain ⟨a, ha, ea⟩ := (dlt x (by omega)).1 w; exact absurd ea (hd a ha)
      dsimp only
      rw [hh' x (by omega), if_pos ⟨hx, nd⟩, tot, tv p (Nat.le_refl _), if_pos rfl, hI.hg x hx fun a ha => by have := hd a (by omega); rwa [ev a ha] at this]
    · rw [tv q (by omega)]
      by_cases c : q = p
      · dsimp only
        rw [if_pos c, c, hh' b hb12, if_neg (fun z => by have := z.2; unfold updF at this; rw [if_pos rfl] at this; cases this)]
        exact hI.hg b bm fresh
      · rw [if_neg c]
        have rv := hr _ (hI.o.mem q (by omega))
        have dv : updF d b true (v q) = true := (dlt (v q) (by omega)).2 ⟨q, by omega, ev q (by omega)⟩
        dsimp only
        rw [hh' (v q) (by omega), if_neg (fun z => by rw [dv] at z; cases z.2)]
        exact hI.hd q (by omega)
    · rw [show p + 1 - 1 = p by omega, if_pos rfl]
    · rw [show p + 1 - 2 = p - 1 by omega, if_neg (by omega)]; exact hI.la (by omega)
    · have := cnt_one_more (S := updF d b true) (T := d) (u := b) (n := 12) hb12 (by unfold updF; rw [if_pos rfl]) bd fun x hx hne => by unfold updF; rw [if_neg hne]
      have := hI.cn
      dsimp only
      omega
    · dsimp only
      have b1 := hB b x hb12 hx
      have b2 := hI.bd x hx
      rw [hh' x hx, show ((p + 1 : Nat) : Int) * B = p * B + B by rw [Int.natCast_add, Int.add_mul]; simp]
      split <;> omega
  rw [Nat.zero_add] at hI
  dsimp only at hI
  have la := hI.la (by omega)
  have rl := hr _ (hI.o.mem (l.length - 1) (by omega))
  have all : ∀ x : Nat, (x : Int) ∈ l → ∃ a, a < l.length ∧ v a = x := fun x hx => by
    have rx := hr _ hx
    refine (hI.dn x (by omega)).1 ?_
    cases c : d x with
    | true => rfl
    | false =>
      have := cnt_lt (S := d) (T := inL l) (n := 12) (y := x) (fun z hz hd => by
        obtain ⟨a, ha, ea⟩ := (hI.dn z hz).1 hd
        exact decide_eq_true (by rw [← ea]; exact hI.o.mem a ha)) (by omega) (decide_eq_true hx) c
      have := hI.cn
      omega
  rw [e, bind_some']
  dsimp only
  rw [ck_some ⟨by omega, by omega⟩]
  refine ⟨last, ahead, _, v, rfl, hI.o, all, la, hI.ah h2, ?_⟩
  rw [la, Int.toNat_natCast]
  exact hI.hd (l.length - 1) (by omega)
end Go.Proofs.Ytdpkdicciclobaa
