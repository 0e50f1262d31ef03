/- The walk's rules: rows of structs (or of rows) whose inner rows are the call's own, too. Plain laws over any program. -/
import Derived.Test.YtgkcmjmofcekmaaSxO
namespace Go.Proofs.Ytgkcmjmofcekmaa.Sx
open Go
set_option linter.unusedVariables false
set_option linter.unusedSimpArgs false
/-- what holds one inner row: its cells, the slice's cell being told apart -/
class GE (α : Type) (β : outParam Type) where
  size : Nat
  cells : α → D → Nat → D
  ls : α → List β
  d : α
class GEI (α : Type) {β : Type} [GE α β] : Prop where
  h : ∀ (p : α) (q : D), Indep q → ∀ f, Indep (GE.cells p q f)
instance {β : Type} : GE (List β) β := ⟨1, fun _ q _ => q, id, []⟩
instance {β : Type} : GEI (List β) := ⟨fun _ _ h _ => h⟩
section
variable {α β : Type} [El β] [GE α β]
def gsD (B : Nat → BK) (xs : List α) (e : Nat) : Nat → D := GE.cells (xs.getD e GE.d) (.own (B e) (El.size β) 0 (GE.ls (xs.getD e GE.d)).length)
def gridS (B : Nat → BK) (xs : List α) : C := ⟨xs.length, fun e f => gsD B xs e f⟩
def gridI (te : TypeId) (B : Nat → BK) (xs : List α) : HL := gridH (α := β) te B (xs.map GE.ls)
theorem gridS_len {B : Nat → BK} {xs : List α} : (gridS B xs).len = xs.length := rfl
theorem Le.gsI (te : TypeId) (α : Type) {β : Type} [El β] [GE α β] {s : St} : Le s ⟨s.env, gridI (α := α) te (fun _ => ⟨0, 0, 0⟩) [] :: s.heap⟩ :=
  Le.nofp (fun I w => ⟨fun i hi => absurd hi (by simp), fun i j hi => absurd hi (by simp)⟩) fun b ⟨i, hi, _⟩ => absurd hi (by simp)
theorem cat_gs1 {B : Nat → BK} {xs : List α} {size len : Nat} {get : Nat → Nat → D} {γ : BK} (p : α) (hs : size = GE.size α) (hl : len = xs.length) (hg : ∀ f, f < size → get 0 f = GE.cells p (.own γ (El.size β) 0 (GE.ls p).length) f) :
    Cat size (gridS B xs) 0 len 1 get (gridS (updF B xs.length γ) (xs ++ [p])) := by
  subst hl hs
  refine ⟨by simp [gridS], fun e f he _ => ?_, fun e f he hf => ?_⟩
  · have h1 : (xs ++ [p]).getD e GE.d = xs.getD e GE.d := by
      rw [List.getD_eq_getElem?_getD, List.getElem?_append_left he, ← List.getD_eq_getElem?_getD]
    have h2 : updF B xs.length γ e = B e := by unfold updF; rw [if_neg (by omega)]
    show gsD _ _ e f = gsD _ _ (e + 0) f
    unfold gsD
    rw [h1, h2, Nat.add_zero]
  · have he0 : e = 0 := by omega
    subst he0
    have h1 : (xs ++ [p]).getD xs.length GE.d = p := by simp [List.getD_eq_getElem?_getD]
    have h2 : updF B xs.length γ xs.length = γ := by unfold updF; rw [if_pos rfl]
    show gsD _ _ (xs.length + 0) f = _
    unfold gsD
    rw [Nat.add_zero, h1, h2]
    exact (hg f hf).symm
/-- a row comes to the others, at the end -/
theorem Le.absorbS {s : St} {te : TypeId} {B : Nat → BK} {xs : List α} {ys : List β} {γ : BK} {r1 r2 : List HL} (p : α) (h1 : Rem s.heap (.one γ te (El.size β) (row ys)) r1) (h2 : Rem r1 (gridI te B xs) r2) (hy : ys = GE.ls p) :
    Le s ⟨s.env, gridI te (updF B xs.length γ) (xs ++ [p]) :: r2⟩ := by
  subst hy
  have key : ∀ j, j < xs.length → ((xs ++ [p]).map (GE.ls (α := α))).getD j [] = (xs.map GE.ls).getD j [] ∧ updF B xs.length γ j = B j := fun j hj => by
    refine ⟨?_, by unfold updF; rw [if_neg (by omega)]⟩
    rw [List.map_append, List.getD_eq_getElem?_getD, List.getElem?_append_left (by simpa using hj), ← List.getD_eq_getElem?_getD]
  have last : ((xs ++ [p]).map (GE.ls (α := α))).getD xs.length [] = GE.ls p ∧ updF B xs.length γ xs.length = γ := ⟨by simp [List.getD_eq_getElem?_getD], by unfold updF; rw [if_pos rfl]⟩
  have cases : ∀ j, j < ((xs ++ [p]).map (GE.ls (α := α))).length → j < xs.length ∨ j = xs.length := fun j hj => by simp at hj; omega
  refine Le.two h1 h2 (fun I w k1 k2 hd => ⟨fun j hj => ?_, fun j j' hj hj' p1 p2 e => ?_⟩) fun b ⟨j, hj, hp, e⟩ => ?_
  · show BOk I w (updF B xs.length γ j) te (El.size β) (row (((xs ++ [p]).map (GE.ls (α := α))).getD j []))
    rcases cases j hj with c | c
    · rw [(key j c).1, (key j c).2]; exact k2.1 j (by simpa using c)
    · subst c; rw [last.1, last.2]; exact k1
  · rcases cases j hj with c | c
    · rcases cases j' hj' with c' | c'
      · rw [(key j c).2] at p1 e
        rw [(key j' c').2] at p2 e
        exact k2.2 j j' (by simpa using c) (by simpa using c') p1 p2 e
      · subst c'
        rw [(key j c).2] at p1 e
        rw [last.2] at p2 e
        exact absurd ⟨j, by simpa using c, p1, e.symm⟩ (hd γ.b ⟨p2, rfl⟩)
    · subst c
      rcases cases j' hj' with c' | c'
      · rw [last.2] at p1 e
        rw [(key j' c').2] at p2 e
        exact absurd ⟨j', by simpa using c', p2, e⟩ (hd γ.b ⟨p1, rfl⟩)
      · exact c'.symm
  · rcases cases j hj with c | c
    · rw [(key j c).2] at hp e; exact .inr ⟨j, by simpa using c, hp, e⟩
    · subst c; rw [last.2] at hp e; exact .inl ⟨hp, e⟩
/-- nothing is known of the inner rows any more -/
def rawH (te : TypeId) (B : Nat → BK) (size n : Nat) : HL := .many n B te size (fun _ => raw)
theorem HLe.forget {te : TypeId} {B : Nat → BK} {xs : List α} : HLe (gridI te B xs) (rawH te B (El.size β) xs.length) := ⟨fun I w k => ⟨fun i hi => by
    have h := k.1 i (by simpa using hi)
    exact ⟨Nat.zero_le _, fun hs => let ⟨cs, h1, h2, _⟩ := h.2 hs; ⟨cs, h1, h2, fun e he => absurd he (Nat.not_lt_zero _)⟩⟩, fun i j hi hj => k.2 i j (by simpa using hi) (by simpa using hj)⟩, fun b ⟨i, hi, h⟩ => ⟨i, by simpa using hi, h⟩⟩
theorem ps_loadS {X : Cx} {s : St} {d : Tmp} {ty : TypeId} {pos : String} {aft : Array Edge} {x : Operand} {H0 : List HL} {B : Nat → BK} {xs : List α} {e f i size : Nat} {t te : TypeId} {n : Nat} {H H1 : List HL} [ht : TI X.P t n false] (hx : s.ev x = some (.ptr (B i) size e f)) (hsz : El.size β = size) (hm : At s.heap (gridI te B xs) (gridI te B xs) H) (hm0 : At H0 (gridI te B xs) (gridI te B xs) H1)
    (hi : i < xs.length) (he : e < (GE.ls (xs.getD i GE.d)).length) (hf : Nat.blt f size = true) (hd : Nat.blt d X.nt = true) : PureStep X H0 ⟨some d, .load t x, ty, pos, aft, none⟩ s (s.put d (El.enc ((GE.ls (xs.getD i GE.d)).getD e El.d) f)) := by
  have hk : (xs.map (GE.ls (α := α))).getD i [] = GE.ls (xs.getD i GE.d) := by
    rw [List.getD_eq_getElem?_getD, List.getElem?_map, List.getElem?_eq_getElem hi, List.getD_eq_getElem?_getD, List.getElem?_eq_getElem hi]; rfl
  have := ps_loadG (X := X) (t := t) (n := n) (s := s) (d := d) (ty := ty) (pos := pos) (aft := aft) (H0 := H0) (xs := xs.map (GE.ls (α := α))) hx hsz hm hm0 (by simpa using hi) (by rw [hk]; exact he) hf hd
  rw [hk] at this
  exact this
omit [El β] in
theorem gs_ls {xs : List α} {i : Nat} (hi : i < xs.length) : (xs.map (GE.ls (α := α))).getD i [] = GE.ls (xs.getD i GE.d) := by
  rw [List.getD_eq_getElem?_getD, List.getElem?_map, List.getElem?_eq_getElem hi, List.getD_eq_getElem?_getD, List.getElem?_eq_getElem hi]; rfl
theorem Lend.gsRow {H H' : List HL} {te : TypeId} {B : Nat → BK} {xs : List α} {i len size : Nat} (hm : At H (gridI te B xs) (gridI te B xs) H') (hi : i < xs.length) (hl : len = (GE.ls (xs.getD i GE.d)).length) (hs : size = El.size β) : Lend H (.own (B i) size 0 len) (slD (GE.ls (xs.getD i GE.d))) := by
  have h := Lend.gridRow (xs := xs.map (GE.ls (α := α))) (len := len) (size := size) hm (by simpa using hi) (by rw [gs_ls hi]; exact hl) hs
  rw [gs_ls hi] at h
  exact h
end
instance {α β : Type} [El β] [GE α β] [hg : GEI α] {B : Nat → BK} {xs : List α} : IndepC (gridS B xs) := ⟨fun e f => hg.h _ _ inferInstance _⟩
instance {α β : Type} [El β] [GE α β] [IndepE β] {te : TypeId} {B : Nat → BK} {xs : List α} {H : List HL} [hh : IndepH H] : IndepH (gridI te B xs :: H) := inferInstanceAs (IndepH (gridH te B (xs.map GE.ls) :: H))
theorem BOk.indep' {I I' : Nat → Prop} {w w' : World} {β : BK} {t : TypeId} {size : Nat} (h : BOk I w β t size raw) (hb : 0 < β.s → w'.heap[β.b]? = w.heap[β.b]?) : BOk I' w' β t size raw :=
  ⟨Nat.zero_le _, fun hs => let ⟨cs, h1, h2, _⟩ := h.2 hs; ⟨cs, (hb hs).trans h1, h2, fun e he => absurd he (Nat.not_lt_zero _)⟩⟩
/-- two become one -/
def catB (B : Nat → BK) (n : Nat) (B' : Nat → BK) : Nat → BK := fun e => if e < n then B e else B' (e - n)
theorem Le.catRaw {s : St} {te : TypeId} {B B' : Nat → BK} {size n m k : Nat} {r1 r2 : List HL} (h1 : Rem s.heap (rawH te B size n) r1) (h2 : Rem r1 (rawH te B' size m) r2) (hk : k = n + m) : Le s ⟨s.env, rawH te (catB B n B') size k :: r2⟩ := by
  subst hk
  have lo : ∀ j, j < n → catB B n B' j = B j := fun j hj => by unfold catB; rw [if_pos hj]
  have hi : ∀ j, ¬ j < n → catB B n B' j = B' (j - n) := fun j hj => by unfold catB; rw [if_neg hj]
  refine Le.two h1 h2 (fun I w k1 k2 hd => ⟨fun j hj => ?_, fun j j' hj hj' p1 p2 e => ?_⟩) fun b ⟨j, hj, hp, e⟩ => ?_
  · show BOk I w (catB B n B' j) te size raw
    by_cases c : j < n
    · rw [lo j c]; exact k1.1 j c
    · rw [hi j c]; exact k2.1 (j - n) (by omega)
  · by_cases c : j < n
    · rw [lo j c] at p1 e
      by_cases c' : j' < n
      · rw [lo j' c'] at p2 e; exact k1.2 j j' c c' p1 p2 e
      · rw [hi j' c'] at p2 e
        exact absurd ⟨j' - n, by omega, p2, e⟩ (hd (B j).b ⟨j, c, p1, rfl⟩)
    · rw [hi j c] at p1 e
      by_cases c' : j' < n
      · rw [lo j' c'] at p2 e
        exact absurd ⟨j - n, by omega, p1, e.symm⟩ (hd (B j').b ⟨j', c', p2, rfl⟩)
      · rw [hi j' c'] at p2 e
        have := k2.2 (j - n) (j' - n) (by omega) (by omega) p1 p2 e
        omega
  · by_cases c : j < n
    · rw [lo j c] at hp e; exact .inl ⟨j, c, hp, e⟩
    · rw [hi j c] at hp e; exact .inr ⟨j - n, by omega, hp, e⟩
instance : IndepC raw := ⟨fun _ _ => inferInstanceAs (Indep .junk)⟩
instance {te : TypeId} {B : Nat → BK} {size n : Nat} {H : List HL} [hh : IndepH H] : IndepH (rawH te B size n :: H) := ⟨fun x hx I w hk => by
  rcases List.mem_cons.1 hx with rfl | hx
  · exact ⟨fun i hi => BOk.indep inferInstance (hk.1 i hi), hk.2⟩
  · exact hh.h x hx I w hk⟩
/-- a call that writes one row of which nothing is known, among others -/
theorem Does.inMany {P : Program} {f : FuncId} {args : List D} {d0 : D} {te : TypeId} {B : Nat → BK} {size m i : Nat} (hi : i < m) (h : Does P f args [.one (B i) te size raw] (fun d H => d = d0 ∧ H = [.one (B i) te size raw])) :
    Does P f args [rawH te B size m] (fun d H => d = d0 ∧ H = [rawH te B size m]) := fun I w vs h1 h2 h3 h4 => by
  have hk : (rawH te B size m).ok I w := h2.ok _ (List.mem_singleton.2 rfl)
  have hfp : ∀ b, fps [HL.one (B i) te size raw] b → fps [rawH te B size m] b := fun b ⟨z, hz, hb⟩ => by
    rw [List.mem_singleton.1 hz] at hb
    exact ⟨_, List.mem_singleton.2 rfl, i, hi, hb.1, hb.2⟩
  refine (h I w vs h1 ⟨fun z hz => by rw [List.mem_singleton.1 hz]; exact hk.1 i hi, List.pairwise_singleton _ _, fun b hb => h2.own b (hfp b hb)⟩ h3 h4).mono ?_
  rintro e w' ⟨v, d, H', N, he, ⟨rfl, rfl⟩, hr, hok, hN, hfp', hs⟩
  have hlt : ∀ b, fps [rawH te B size m] b → b < w.heap.size := fun b hb => (h2.own b hb).2
  refine ⟨v, _, _, N, he, ⟨rfl, rfl⟩, hr, ⟨fun z hz => ?_, List.pairwise_singleton _ _, fun b hb => ⟨fun hh => ?_, Nat.lt_of_lt_of_le (hlt b hb) hs.size⟩⟩, hN, fun b hb => .inl hb, hs.mono hfp⟩
  · rw [List.mem_singleton.1 hz]
    refine ⟨fun j hj => ?_, hk.2⟩
    show BOk _ w' (B j) te size raw
    by_cases c : 0 < (B j).s ∧ (B j).b ≠ (B i).b
    · have hj0 := hk.1 j hj
      refine BOk.indep' hj0 fun hp => hs.block _ (hlt _ ⟨_, List.mem_singleton.2 rfl, j, hj, hp, rfl⟩) fun ⟨z, hz, hb⟩ => ?_
      rw [List.mem_singleton.1 hz] at hb
      exact c.2 hb.2
    · by_cases hp : 0 < (B j).s
      · have e1 : (B j).b = (B i).b := Classical.byContradiction fun h => c ⟨hp, h⟩
        by_cases hpi : 0 < (B i).s
        · have : j = i := hk.2 j i hj hi hp hpi e1
          subst this
          exact hok.ok _ (List.mem_singleton.2 rfl)
        · have hj0 := hk.1 j hj
          refine BOk.indep' hj0 fun hp => hs.block _ (hlt _ ⟨_, List.mem_singleton.2 rfl, j, hj, hp, rfl⟩) fun ⟨z, hz, hb⟩ => ?_
          rw [List.mem_singleton.1 hz] at hb
          exact hpi hb.1
      · exact ⟨Nat.zero_le _, fun h => absurd h hp⟩
  · rcases hh with hh | hh
    · exact (h2.own b hb).1 hh
    · have := (hN b hh).1
      have := hlt b hb
      omega
end Go.Proofs.Ytgkcmjmofcekmaa.Sx
