import Derived.Test.YthchdnemndolbaaDoorQSxL
namespace Go.Proofs.YthchdnemndolbaaDoor.Sx
open Go
set_option linter.unusedVariables false
set_option linter.unusedSimpArgs false
theorem eldI : (El.d : Int) = 0 := rfl
section
variable {X : Cx} {fn : Func} {R : Ending → World → Prop} {k : List It} {s : St} {all : Array Oper} {os : List Oper} {d : Tmp} {ty : TypeId} {pos : String} {aft : Array Edge} {gd : Option (Nat × Bool)} {x y : Operand} {q : D} {H0 : List HL}
end
theorem DLe.rp1 {size e f : Nat} {g g' : Nat → Nat → D} (h : AllLt size fun f => DLe (g 0 f) (g' 0 f)) : DLe (.rp size 1 g e f) (.rp size 1 g' e f) := by
  rintro I w v ⟨b, o, rfl, hg, hc⟩
  refine ⟨b, o, rfl, hg, fun e' he f' hf => ?_⟩
  obtain rfl : e' = 0 := by omega
  obtain ⟨u, hu, ho, hr⟩ := hc 0 he f' hf
  exact ⟨u, hu, ho, h.all f' hf I w u hr⟩
def gridC {α : Type} [El α] (B : Nat → BK) (xs : List (List α)) : C := ⟨xs.length, fun e _ => .own (B e) (El.size α) 0 (xs.getD e []).length⟩
def gridH {α : Type} [El α] (te : TypeId) (B : Nat → BK) (xs : List (List α)) : HL := .many xs.length B te (El.size α) (fun e => row (xs.getD e []))
section
variable {X : Cx} {s : St} {d : Tmp} {ty : TypeId} {pos : String} {aft : Array Edge} {gd : Option (Nat × Bool)} {x y : Operand} {q : D} {H0 : List HL}
theorem ps_loadM {B : Nat → BK} {size e f i m : Nat} {t te : TypeId} {n : Nat} {c : Nat → C} {H H1 : List HL} [ht : TI X.P t n false] (hx : s.ev x = some (.ptr (B i) size e f)) (hm : At s.heap (.many m B te size c) (.many m B te size c) H) (hm0 : At H0 (.many m B te size c) (.many m B te size c) H1)
    (hi : i < m) (he : e < (c i).len) (hf : Nat.blt f size = true) (hd : Nat.blt d X.nt = true) : PureStep X H0 ⟨some d, .load t x, ty, pos, aft, none⟩ s (s.put d ((c i).get e f)) :=
  ps_of hd fun _ a w hs => by
    have hv : a.eval x = .pointer (some ⟨(B i).b, (B i).o + (e * size + f), none⟩) := hs.ev hx
    have hk : (HL.many m B te size c).ok _ w := hs.heap _ hm.mem
    have hb := hk.1 i hi
    obtain ⟨u, hu, _, hr⟩ := hb.cell he (blt_lt hf)
    have hpos : 0 < (B i).s := by have := hb.1; omega
    exact ⟨u, fun w' hw => by
      have hcell : w'.cell? ⟨(B i).b, (B i).o + (e * size + f), none⟩ = some u := (World.cell?_of_block (w := w) (w' := w') (hw (B i).b (.inr ⟨_, hm0.mem, i, hi, hpos, rfl⟩))).trans hu
      simp [execOp, Instr.loadAt, Instr.sureAddr, hv, loadVar, ht.agg, hcell], hr⟩
theorem ps_loadG {α : Type} [El α] {B : Nat → BK} {xs : List (List α)} {e f i size : Nat} {t te : TypeId} {n : Nat} {H H1 : List HL} [ht : TI X.P t n false] (hx : s.ev x = some (.ptr (B i) size e f)) (hsz : El.size α = size) (hm : At s.heap (gridH te B xs) (gridH te B xs) H) (hm0 : At H0 (gridH te B xs) (gridH te B xs) H1)
    (hi : i < xs.length) (he : e < (xs.getD i []).length) (hf : Nat.blt f size = true) (hd : Nat.blt d X.nt = true) : PureStep X H0 ⟨some d, .load t x, ty, pos, aft, none⟩ s (s.put d (El.enc ((xs.getD i []).getD e El.d) f)) := by
  subst hsz
  exact ps_loadM (c := fun e => row (xs.getD e [])) hx hm hm0 hi he hf hd
theorem ef_storeG {α : Type} [El α] {B : Nat → BK} {xs : List (List α)} {v : α} {i e f size : Nat} {t te : TypeId} {H : List HL} [ht : TI X.P t 1 false] (hx : s.ev x = some (.ptr (B i) size e f)) (hsz : El.size α = size) (hy : s.ev y = some q) (hq : q.one = true)
    (hm : At s.heap (gridH te B xs) (gridH te B (xs.set i ((xs.getD i []).set e v))) H) (hu : Upd1 size (row (xs.getD i [])) e f q (row ((xs.getD i []).set e v))) (hi : i < xs.length) (he : e < (xs.getD i []).length) (hf : Nat.blt f size = true) :
    Eff X ⟨none, .store t x y, ty, pos, aft, gd⟩ s [gridH te B xs] (fun s2 => s2 = ⟨s.env, H⟩) := fun I a w hs Q => by
  subst hsz
  have hv : a.eval x = .pointer (some ⟨(B i).b, (B i).o + (e * El.size α + f), none⟩) := hs.ev hx
  have hr := hs.ev hy
  have ho := D.one_ok hq hr
  have hk : (gridH te B xs).ok I w := hs.heap _ hm.mem
  have hb : BOk I w (B i) te (El.size α) (row (xs.getD i [])) := hk.1 i hi
  have hpos : 0 < (B i).s := by have h1 := hb.1; have h2 : e < (row (xs.getD i [])).len := he; omega
  have hown := hs.own (B i).b ⟨_, hm.mem, i, hi, hpos, rfl⟩
  obtain ⟨cs, hg, hfit, hb'⟩ := hb.store hu.toN he (blt_lt hf) (vs := [a.eval y]) rfl (fun j hj => ⟨a.eval y, by simp [show j = 0 by omega], ho, hr⟩) hown.1
  have hrun := run_storeVar (P := X.P) (w := w) (t := t) (v := a.eval y) (by rw [cells_one ho]; rfl) hg hfit (by rw [cells_one ho]; simpa using ho)
  rw [cells_one ho] at hrun
  have hsame0 := Same.setRow w (B i).b (splice cs ((B i).o + (e * El.size α + f)) [a.eval y])
  have hsame : Same w (w.setRow (B i).b (splice cs ((B i).o + (e * El.size α + f)) [a.eval y])) (gridH te B xs).fp := hsame0.mono fun b hb => ⟨i, hi, hpos, hb⟩
  refine wp_skip0 (w' := w.setRow (B i).b (splice cs ((B i).o + (e * El.size α + f)) [a.eval y])) ?_ ⟨hsame.mono fun b hb => fps_one hb, _, rfl, ?_⟩
  · simp only [execOp, Instr.storeAt, Instr.sureAddr, hv, Sem.run_bind, Sem.run_pure, Result.andThen_ok, hrun]
  · refine hs.turn hm hsame ⟨fun j hj => ?_, fun j j' hj hj' => ?_⟩ fun b hb => ?_
    · have hj' : j < xs.length := by simpa using hj
      show BOk I _ (B j) te (El.size α) (row ((xs.set i ((xs.getD i []).set e v)).getD j []))
      rw [getD_set _ _ _ _ _ hj']
      by_cases z : j = i
      · subst z; rw [if_pos rfl]; exact hb'
      · rw [if_neg z]
        refine BOk.mono (hk.1 j hj') (fun _ h => h) (fun b hb => hsame0.block b (hs.imm b hb).1 fun e => hown.1 (e ▸ hb)) fun hp => hsame0.block _ (hs.own _ ⟨_, hm.mem, j, hj', hp, rfl⟩).2.2 fun e => z (hk.2 j i hj' hi hp hpos e)
    · exact hk.2 j j' (by simpa using hj) (by simpa using hj')
    · obtain ⟨j, hj, hp, e⟩ := hb
      have hj' : j < xs.length := by simpa using hj
      have h1 := hs.own b ⟨_, hm.mem, j, hj', hp, e⟩
      exact ⟨.inl ⟨j, hj', hp, e⟩, by simpa using h1.2.2⟩
end
theorem upd_grid {α : Type} [El α] {B : Nat → BK} {xs : List (List α)} {i size len : Nat} {β : BK} {ys : List α} (hsz : size = El.size α) (hl : len = ys.length) : Upd1 1 (gridC B xs) i 0 (.own β size 0 len) (gridC (updF B i β) (xs.set i ys)) :=
  ⟨by simp [gridC], fun e f he hf => by
    subst hsz hl
    have hf0 : f = 0 := by omega
    subst hf0
    simp only [gridC] at he ⊢
    rw [getD_set _ _ _ _ _ he]
    unfold updF
    by_cases h : e = i
    · rw [if_pos h, if_pos h, if_pos ⟨h, trivial⟩]
    · rw [if_neg h, if_neg h, if_neg (fun z => h z.1)]⟩
theorem Le.two {s : St} {x y z : HL} {r1 r2 : List HL} (h1 : Rem s.heap x r1) (h2 : Rem r1 y r2) (hok : ∀ I w, x.ok I w → y.ok I w → (∀ b, x.fp b → ¬ y.fp b) → z.ok I w) (hfp : ∀ b, z.fp b → x.fp b ∨ y.fp b) : Le s ⟨s.env, z :: r2⟩ := fun X I a w hs => by
  have p1 := h1.perm
  have p2 := h2.perm
  obtain ⟨a1, a2⟩ := List.pairwise_cons.1 (sep_perm p1 hs.sep)
  obtain ⟨b1, b2⟩ := List.pairwise_cons.1 (sep_perm p2 a2)
  have hxm : x ∈ s.heap := p1.mem_iff.2 (List.mem_cons_self ..)
  have hr1 : ∀ u, u ∈ r1 → u ∈ s.heap := fun u hu => p1.mem_iff.2 (List.mem_cons_of_mem _ hu)
  have hym : y ∈ r1 := p2.mem_iff.2 (List.mem_cons_self ..)
  have hr2 : ∀ u, u ∈ r2 → u ∈ r1 := fun u hu => p2.mem_iff.2 (List.mem_cons_of_mem _ hu)
  refine ⟨hs.tsz, hs.dfr, hs.env, fun u hu => ?_, List.pairwise_cons.2 ⟨fun u hu b hb hub => ?_, b2⟩, fun b ⟨u, hu, hub⟩ => ?_, hs.imm, hs.i0, hs.same⟩
  · rcases List.mem_cons.1 hu with rfl | hu
    · exact hok I w (hs.heap x hxm) (hs.heap y (hr1 y hym)) (a1 y hym)
    · exact hs.heap u (hr1 u (hr2 u hu))
  · rcases hfp b hb with h | h
    · exact a1 u (hr2 u hu) b h hub
    · exact b1 u hu b h hub
  · rcases List.mem_cons.1 hu with rfl | hu
    · rcases hfp b hub with h | h
      · exact hs.own b ⟨x, hxm, h⟩
      · exact hs.own b ⟨y, hr1 y hym, h⟩
    · exact hs.own b ⟨u, hr1 u (hr2 u hu), hub⟩
theorem Le.nofp {s : St} {x : HL} (hok : ∀ I w, x.ok I w) (hf : ∀ b, ¬ x.fp b) : Le s ⟨s.env, x :: s.heap⟩ := fun X I a w hs =>
  ⟨hs.tsz, hs.dfr, hs.env, fun z hz => by
      rcases List.mem_cons.1 hz with rfl | hz
      · exact hok I w
      · exact hs.heap z hz,
    List.pairwise_cons.2 ⟨fun z hz b hb => absurd hb (hf b), hs.sep⟩,
    fun b ⟨z, hz, hzb⟩ => by
      rcases List.mem_cons.1 hz with rfl | hz
      · exact absurd hzb (hf b)
      · exact hs.own b ⟨z, hz, hzb⟩, hs.imm, hs.i0, hs.same⟩
section
variable {α : Type} [El α] {s : St} {te : TypeId} {B B1 : Nat → BK} {xs xs1 : List (List α)} {ys : List α} {i n : Nat} {β : BK} {r1 r2 : List HL}
theorem Le.grid0 (te : TypeId) (α : Type) [El α] (n : Nat) {s : St} : Le s ⟨s.env, gridH (α := α) te (fun _ => ⟨0, 0, 0⟩) (List.replicate n []) :: s.heap⟩ :=
  Le.nofp (fun I w => ⟨fun i hi => ⟨by
    have hi' : i < n := by simpa [gridH] using hi
    show ((List.replicate n ([] : List α)).getD i []).length ≤ 0
    simp [List.getD_eq_getElem?_getD, hi'], fun h => absurd h (by simp)⟩, fun i j _ _ h => absurd h (by simp)⟩) fun b ⟨i, hi, h, _⟩ => absurd h (by simp)
theorem Le.absorb (h1 : Rem s.heap (.one β te (El.size α) (row ys)) r1) (h2 : Rem r1 (gridH te B1 xs1) r2) (hl : xs1.length = xs.length) (hB : ∀ j, j ≠ i → B1 j = B j) (hx : ∀ j, j ≠ i → xs1.getD j [] = xs.getD j []) :
    Le s ⟨s.env, gridH te (updF B i β) (xs.set i ys) :: r2⟩ := Le.two h1 h2 (fun I w k1 k2 hd => ⟨fun j hj => by
    have hj' : j < xs.length := by simpa using hj
    show BOk I w (updF B i β j) te (El.size α) (row ((xs.set i ys).getD j []))
    rw [getD_set _ _ _ _ _ hj']
    unfold updF
    by_cases z : j = i
    · rw [if_pos z, if_pos z]; exact k1
    · rw [if_neg z, if_neg z, ← hB j z, ← hx j z]; exact k2.1 j (by rw [hl]; exact hj'), fun j j' hj hj' p1 p2 e => by
    have hj1 : j < xs1.length := by rw [hl]; simpa using hj
    have hj2 : j' < xs1.length := by rw [hl]; simpa using hj'
    unfold updF at p1 p2 e
    by_cases z : j = i
    · by_cases z' : j' = i
      · rw [z, z']
      · rw [if_pos z] at p1 e
        rw [if_neg z'] at p2 e
        rw [← hB j' z'] at p2 e
        exact absurd ⟨j', hj2, p2, e⟩ (hd β.b ⟨p1, rfl⟩)
    · by_cases z' : j' = i
      · rw [if_neg z] at p1 e
        rw [if_pos z'] at p2 e
        rw [← hB j z] at p1 e
        exact absurd ⟨j, hj1, p1, e.symm⟩ (hd β.b ⟨p2, rfl⟩)
      · rw [if_neg z] at p1 e
        rw [if_neg z'] at p2 e
        rw [← hB j z] at p1 e
        rw [← hB j' z'] at p2 e
        exact k2.2 j j' hj1 hj2 p1 p2 e⟩) fun b ⟨j, hj, p, e⟩ => by
    have hj1 : j < xs1.length := by rw [hl]; simpa using hj
    unfold updF at p e
    by_cases z : j = i
    · rw [if_pos z] at p e; exact .inl ⟨p, e⟩
    · rw [if_neg z, ← hB j z] at p e; exact .inr ⟨j, hj1, p, e⟩
theorem HLe.gridS {σ : Nat → Nat} {B' : Nat → BK} {xs' : List (List α)} (hl : xs'.length = xs.length) (hσ : ∀ j, j < xs.length → σ j < xs.length) (hinj : ∀ j j', j < xs.length → j' < xs.length → σ j = σ j' → j = j') (hB : ∀ j, j < xs.length → B' j = B (σ j)) (hx : ∀ j, j < xs.length → xs'.getD j [] = xs.getD (σ j) []) :
    HLe (gridH te B xs) (gridH te B' xs') := ⟨fun I w k => ⟨fun j hj => by
    have hj' : j < xs.length := by rw [← hl]; exact hj
    show BOk I w (B' j) te (El.size α) (row (xs'.getD j []))
    rw [hB j hj', hx j hj']
    exact k.1 _ (hσ j hj'), fun j j' hj hj' p1 p2 e => by
    have g1 : j < xs.length := by rw [← hl]; exact hj
    have g2 : j' < xs.length := by rw [← hl]; exact hj'
    rw [hB j g1] at p1 e
    rw [hB j' g2] at p2 e
    exact hinj j j' g1 g2 (k.2 _ _ (hσ j g1) (hσ j' g2) p1 p2 e)⟩, fun b ⟨j, hj, p, e⟩ => by
    have g1 : j < xs.length := by rw [← hl]; exact hj
    rw [hB j g1] at p e
    exact ⟨σ j, hσ j g1, p, e⟩⟩
end
section
variable {X : Cx} {fn : Func} {R : Ending → World → Prop} {k : List It} {s : St} {α : Type} [El α] {te to : TypeId} {B : Nat → BK} {xs : List (List α)} {βo : BK} {rest rest' : List HL} {j : Nat} {r : D}
end
instance {α : Type} [El α] {B : Nat → BK} {xs : List (List α)} : IndepC (gridC B xs) := ⟨fun _ _ => inferInstanceAs (Indep (.own _ _ _ _))⟩
instance {α : Type} [El α] [he : IndepE α] {te : TypeId} {B : Nat → BK} {xs : List (List α)} {H : List HL} [hh : IndepH H] : IndepH (gridH te B xs :: H) := ⟨fun x hx I w hk => by
  rcases List.mem_cons.1 hx with rfl | hx
  · exact ⟨fun i hi => BOk.indep inferInstance (hk.1 i hi), hk.2⟩
  · exact hh.h x hx I w hk⟩
end Go.Proofs.YthchdnemndolbaaDoor.Sx
