/- What the functions of keep compute, by walks through their text. -/
import Derived.Test.YtmgldjkgneiejaaTys
import Derived.Test.YtmgldjkgneiejaaDat
import Derived.Test.YtmgldjkgneiejaaGraph
namespace Go.Proofs.Ytmgldjkgneiejaa
open Go Go.Proofs.Ytmgldjkgneiejaa.Sx
set_option linter.unusedVariables false
set_option linter.unusedSimpArgs false

theorem take_get {l : List Arc} {k : Nat} (h : k < l.length) : l.take k ++ [l.getD k ⟨0, 0, 0⟩] = l.take (k + 1) := by
  rw [List.take_add_one, List.getElem?_eq_getElem h, List.getD_eq_getElem?_getD, List.getElem?_eq_getElem h]; rfl
theorem mem_getD0 {l : List Int} {k : Nat} (h : k < l.length) : l.getD k 0 ∈ l := by
  rw [List.getD_eq_getElem?_getD, List.getElem?_eq_getElem h]; exact List.getElem_mem h
set_option maxRecDepth 100000 in
set_option maxHeartbeats 400000 in
theorem arcs_spec (l : List Arc) (hl : l.length ≤ 100) : Does Try.prog 15 [arcsD l] [] (fun d H => ∃ β, d = .own β 3 0 l.length ∧ H = [.one β 32 3 (arcs l)]) := by
  refine Does.intro Try.func15 rfl Try.ntmps15 rfl fun w0 I0 => ?_
  refine GoC.seq ?_
  refine GoC.region ?_
  refine GoO.pure (ps_assign rfl rfl) ?_
  refine GoO.nil ?_
  refine GoK.code ?_
  refine GoC.seq ?_
  refine GoC.region ?_
  refine GoO.pure (ps_assign rfl rfl) ?_
  refine GoO.nil ?_
  refine GoK.code ?_
  refine GoC.seq ?_
  refine GoC.seq ?_
  refine GoC.region ?_
  refine GoO.pure (ps_move rfl rfl) ?_
  refine GoO.pure (ps_len rfl (by constructor) rfl) ?_
  refine GoO.pure (ps_move rfl rfl) ?_
  refine GoO.nil ?_
  refine GoK.code ?_
  refine GoC.block ?_
  refine GoC.le (le_nil 3 32 3 (arcs []) rfl rfl) ?_
  refine GoC.loopE (σ := Nat × BK × List Arc) [2, 6, 7] (fun (k, β, xs) => [(8, .i (k : Int)), (3, .own β 3 0 k)]) (fun (k, β, xs) => [.one β 32 3 (arcs xs)]) (fun n (k, β, xs) => n = l.length - k ∧ k ≤ l.length ∧ xs = l.take k) (l.length) (0, _, []) ?_ (by repeat (first | exact EnvLe.nil | refine EnvLe.cons rfl ?_)) (by exact (Take.cons _ _ _ _ _ (by first | exact Rem.p0 | exact Rem.p1 | exact Rem.p2 | exact Rem.p3 | exact Rem.p4 | exact Rem.p5 | exact Rem.p6 | exact Rem.p7 | exact Rem.p8 | exact Rem.p9 | exact Rem.p10 | exact Rem.p11 | exact Rem.p12 | exact Rem.p13) (Take.nil _))) ?_
  · exact ⟨by omega, by omega, rfl⟩
  rintro n ⟨k, β, xs⟩ ⟨rfl, hk, hxs⟩
  have hxl : xs.length = k := by rw [hxs, List.length_take]; omega
  refine GoC.seq ?_
  refine GoC.region ?_
  refine GoO.pure (ps_lss rfl rfl rfl) ?_
  refine GoO.nil ?_
  refine GoK.code ?_
  refine GoC.seq ?_
  first | refine GoC.condD rfl (fun h7 => ?_) (fun h7 => ?_) | refine GoC.cond rfl (fun h7 => ?_) (fun h7 => ?_)
  · skip
    have hlt : k < l.length := by omega
    refine GoC.skip ?_
    refine GoK.code ?_
    refine GoC.seq ?_
    refine GoC.block ?_
    refine GoC.seq ?_
    refine GoC.region ?_
    first | refine GoO.pure (ps_indexAddr0N rfl rfl ?_ rfl) ?_ | refine GoO.pure (ps_indexAddrRN rfl rfl ?_ rfl) ?_ | refine GoO.pure (ps_indexAddr0 rfl rfl ?_ rfl) ?_ | refine GoO.pure (ps_indexAddrN rfl rfl ?_ rfl) ?_ | refine GoO.pure (ps_indexAddrRN rfl rfl ?_ rfl) ?_ | refine GoO.pure (ps_indexAddr rfl rfl ?_ rfl) ?_ | refine GoO.pure (ps_indexAddrR rfl rfl ?_ rfl) ?_
    · first | exact Nat.zero_lt_one | assumption | omega | exact InI.of (by omega) (by omega) | (simp only [ints_len, bools_len, st1_len, arcs_len, lits_len, List.length_set, List.length_append, List.length_cons, List.length_nil, List.length_replicate]; omega)
    first | refine GoO.pure (ps_loadAg rfl (by first | exact At.p0 | exact At.p1 | exact At.p2 | exact At.p3 | exact At.p4 | exact At.p5 | exact At.p6 | exact At.p7 | exact At.p8 | exact At.p9 | exact At.p10 | exact At.p11 | exact At.p12 | exact At.p13) (by first | exact At.p0 | exact At.p1 | exact At.p2 | exact At.p3 | exact At.p4 | exact At.p5 | exact At.p6 | exact At.p7 | exact At.p8 | exact At.p9 | exact At.p10 | exact At.p11 | exact At.p12 | exact At.p13) ?_ rfl rfl) ?_ | refine GoO.pure (ps_loadAgR rfl ?_ rfl rfl) ?_
    · first | exact Nat.zero_lt_one | assumption | omega | exact InI.of (by omega) (by omega) | (simp only [ints_len, bools_len, st1_len, arcs_len, lits_len, List.length_set, List.length_append, List.length_cons, List.length_nil, List.length_replicate]; omega)
    refine GoO.effB (ef_alloc rfl) (fun β10 => ?_)
    refine GoO.eff1 (ef_storeAg rfl rfl (by first | exact At.p0 | exact At.p1 | exact At.p2 | exact At.p3 | exact At.p4 | exact At.p5 | exact At.p6 | exact At.p7 | exact At.p8 | exact At.p9 | exact At.p10 | exact At.p11 | exact At.p12 | exact At.p13) upd_whole Nat.zero_lt_one rfl) ?_
    refine GoO.nil ?_
    refine GoK.code ?_
    refine GoC.region ?_
    refine GoO.pure (ps_move rfl rfl) ?_
    refine GoO.pure (ps_indexAddrA rfl rfl ?_ rfl) ?_
    · first | exact Nat.zero_lt_one | assumption | omega | exact InI.of (by omega) (by omega) | (simp only [ints_len, bools_len, st1_len, arcs_len, lits_len, List.length_set, List.length_append, List.length_cons, List.length_nil, List.length_replicate]; omega)
    first | refine GoO.pure (ps_load rfl (by first | exact At.p0 | exact At.p1 | exact At.p2 | exact At.p3 | exact At.p4 | exact At.p5 | exact At.p6 | exact At.p7 | exact At.p8 | exact At.p9 | exact At.p10 | exact At.p11 | exact At.p12 | exact At.p13) (by first | exact At.p0 | exact At.p1 | exact At.p2 | exact At.p3 | exact At.p4 | exact At.p5 | exact At.p6 | exact At.p7 | exact At.p8 | exact At.p9 | exact At.p10 | exact At.p11 | exact At.p12 | exact At.p13) ?_ rfl rfl) ?_ | refine GoO.pure (ps_loadR rfl ?_ rfl rfl) ?_
    · first | exact Nat.zero_lt_one | assumption | omega | exact InI.of (by omega) (by omega) | (simp only [ints_len, bools_len, st1_len, arcs_len, lits_len, List.length_set, List.length_append, List.length_cons, List.length_nil, List.length_replicate]; omega)
    refine GoO.pure (ps_indexAddrA rfl rfl ?_ rfl) ?_
    · first | exact Nat.zero_lt_one | assumption | omega | exact InI.of (by omega) (by omega) | (simp only [ints_len, bools_len, st1_len, arcs_len, lits_len, List.length_set, List.length_append, List.length_cons, List.length_nil, List.length_replicate]; omega)
    first | refine GoO.pure (ps_load rfl (by first | exact At.p0 | exact At.p1 | exact At.p2 | exact At.p3 | exact At.p4 | exact At.p5 | exact At.p6 | exact At.p7 | exact At.p8 | exact At.p9 | exact At.p10 | exact At.p11 | exact At.p12 | exact At.p13) (by first | exact At.p0 | exact At.p1 | exact At.p2 | exact At.p3 | exact At.p4 | exact At.p5 | exact At.p6 | exact At.p7 | exact At.p8 | exact At.p9 | exact At.p10 | exact At.p11 | exact At.p12 | exact At.p13) ?_ rfl rfl) ?_ | refine GoO.pure (ps_loadR rfl ?_ rfl rfl) ?_
    · first | exact Nat.zero_lt_one | assumption | omega | exact InI.of (by omega) (by omega) | (simp only [ints_len, bools_len, st1_len, arcs_len, lits_len, List.length_set, List.length_append, List.length_cons, List.length_nil, List.length_replicate]; omega)
    refine GoO.pure (ps_indexAddrA rfl rfl ?_ rfl) ?_
    · first | exact Nat.zero_lt_one | assumption | omega | exact InI.of (by omega) (by omega) | (simp only [ints_len, bools_len, st1_len, arcs_len, lits_len, List.length_set, List.length_append, List.length_cons, List.length_nil, List.length_replicate]; omega)
    first | refine GoO.pure (ps_load rfl (by first | exact At.p0 | exact At.p1 | exact At.p2 | exact At.p3 | exact At.p4 | exact At.p5 | exact At.p6 | exact At.p7 | exact At.p8 | exact At.p9 | exact At.p10 | exact At.p11 | exact At.p12 | exact At.p13) (by first | exact At.p0 | exact At.p1 | exact At.p2 | exact At.p3 | exact At.p4 | exact At.p5 | exact At.p6 | exact At.p7 | exact At.p8 | exact At.p9 | exact At.p10 | exact At.p11 | exact At.p12 | exact At.p13) ?_ rfl rfl) ?_ | refine GoO.pure (ps_loadR rfl ?_ rfl rfl) ?_
    · first | exact Nat.zero_lt_one | assumption | omega | exact InI.of (by omega) (by omega) | (simp only [ints_len, bools_len, st1_len, arcs_len, lits_len, List.length_set, List.length_append, List.length_cons, List.length_nil, List.length_replicate]; omega)
    refine GoO.pure (ps_build (by exact (Parts.cons _ _ _ _ _ _ _ _ FdP.of (by first | exact Part.one _ rfl rfl | exact Part.ag _ _ rfl) (by rfl) (by rfl) (Parts.cons _ _ _ _ _ _ _ _ FdP.of (by first | exact Part.one _ rfl rfl | exact Part.ag _ _ rfl) (by rfl) (by rfl) (Parts.cons _ _ _ _ _ _ _ _ FdP.of (by first | exact Part.one _ rfl rfl | exact Part.ag _ _ rfl) (by rfl) (by rfl) (Parts.nil _))))) rfl) ?_
    refine GoO.effB (ef_buildSlice (arcs [l.getD k ⟨0, 0, 0⟩]) rfl (by exact (Parts.cons _ _ _ _ _ _ _ _ ⟨rfl, rfl⟩ (by first | exact Part.one _ rfl rfl | exact Part.ag _ _ rfl) (by rfl) (by rfl) (Parts.nil _))) rfl rfl rfl rfl) (fun β20 => ?_)
    refine GoO.effB (ef_append rfl rfl (by first | exact Rem.p0 | exact Rem.p1 | exact Rem.p2 | exact Rem.p3 | exact Rem.p4) (Src.own (by first | exact At.p0 | exact At.p1 | exact At.p2 | exact At.p3 | exact At.p4) (Nat.le_refl _)) (cat_arc1 (a := l.getD k ⟨0, 0, 0⟩) hxl fun _ _ => rfl) ?_ ?_ rfl rfl rfl) (fun β21 => ?_)
    · first | exact Nat.zero_lt_one | assumption | omega | exact InI.of (by omega) (by omega) | (simp only [ints_len, bools_len, st1_len, arcs_len, lits_len, List.length_set, List.length_append, List.length_cons, List.length_nil, List.length_replicate]; omega)
    · first | exact Nat.zero_lt_one | assumption | omega | exact InI.of (by omega) (by omega) | (simp only [ints_len, bools_len, st1_len, arcs_len, lits_len, List.length_set, List.length_append, List.length_cons, List.length_nil, List.length_replicate]; omega)
    refine GoO.pure (ps_assign rfl rfl) ?_
    refine GoO.nil ?_
    refine GoK.blk ?_
    refine GoK.code ?_
    refine GoC.region ?_
    refine GoO.pure (ps_add rfl rfl rfl ?_) ?_
    · first | exact Nat.zero_lt_one | assumption | omega | exact InI.of (by omega) (by omega) | (simp only [ints_len, bools_len, st1_len, arcs_len, lits_len, List.length_set, List.length_append, List.length_cons, List.length_nil, List.length_replicate]; omega)
    refine GoO.pure (ps_move rfl rfl) ?_
    refine GoO.nil ?_
    refine GoK.againE (l.length - (k + 1)) ((k + 1, _, xs ++ [l.getD k ⟨0, 0, 0⟩])) ?_ ?_ (by repeat (first | exact EnvLe.nil | refine EnvLe.cons rfl ?_)) (by repeat (first | exact Tk.all _ | exact Tk.nil | refine Tk.cons (by first | exact Rem.p0 | exact Rem.p1 | exact Rem.p2 | exact Rem.p3 | exact Rem.p4 | exact Rem.p5 | exact Rem.p6 | exact Rem.p7 | exact Rem.p8 | exact Rem.p9 | exact Rem.p10 | exact Rem.p11 | exact Rem.p12 | exact Rem.p13) ?_))
    · omega
    · exact ⟨rfl, hlt, by rw [hxs]; exact take_get hlt⟩
  · skip
    refine GoC.exit rfl ?_
    refine GoK.code ?_
    refine GoC.seq ?_
    refine GoC.region ?_
    refine GoO.pure (ps_move rfl rfl) ?_
    refine GoO.pure (ps_assign rfl rfl) ?_
    refine GoO.nil ?_
    refine GoK.code ?_
    refine GoC.ret1 (H' := [.one _ 32 3 (arcs _)]) Try.results15 (ResD.tmp rfl) (by exact (Take.cons _ _ _ _ _ (by first | exact Rem.p0 | exact Rem.p1 | exact Rem.p2 | exact Rem.p3 | exact Rem.p4 | exact Rem.p5 | exact Rem.p6 | exact Rem.p7 | exact Rem.p8 | exact Rem.p9 | exact Rem.p10 | exact Rem.p11 | exact Rem.p12 | exact Rem.p13) (Take.nil _))) ?_
    · have e : xs = l := (by rw [hxs, List.take_of_length_le (by omega)]); subst e; subst hxl; exact ⟨_, rfl, rfl⟩
set_option maxRecDepth 100000 in
set_option maxHeartbeats 400000 in
theorem rest_spec (n m : Int) (hn : InI n) (hm0 : 0 < m) (hm : m ≤ 1000000) : Does Try.prog 17 [.i n, .i m] [] (fun d H => d = .i (n % m) ∧ H = []) := by
  have hlo := Int.emod_nonneg n (show m ≠ 0 by omega)
  have hhi := Int.emod_lt_of_pos n hm0
  have e0 : n.tmod m = n % m ∨ n.tmod m = n % m - m := by
    rw [Int.tmod_eq_emod]; split
    · exact .inl (by simp)
    · exact .inr (by rw [Int.natAbs_of_nonneg (by omega)])
  have e2 : n % m = 0 → n.tmod m = 0 := fun e => Int.tmod_eq_zero_of_dvd (Int.dvd_of_emod_eq_zero e)
  have e1 : n % m = if n.tmod m < 0 then n.tmod m + m else n.tmod m := by
    split <;> omega
  have hlo2 : -m < n.tmod m := by omega
  refine Does.intro Try.func17 rfl Try.ntmps17 rfl fun w0 I0 => ?_
  refine GoC.seq ?_
  refine GoC.region ?_
  refine GoO.pure (ps_assign rfl rfl) ?_
  refine GoO.nil ?_
  refine GoK.code ?_
  refine GoC.seq ?_
  refine GoC.region ?_
  refine GoO.pure (ps_move rfl rfl) ?_
  refine GoO.pure (ps_move rfl rfl) ?_
  refine GoO.pure (ps_rem rfl rfl rfl ?_) ?_
  · first | exact Nat.zero_lt_one | assumption | omega | exact InI.of (by omega) (by omega) | (simp only [ints_len, bools_len, st1_len, arcs_len, lits_len, List.length_set, List.length_append, List.length_cons, List.length_nil, List.length_replicate]; omega)
  refine GoO.pure (ps_assign rfl rfl) ?_
  refine GoO.nil ?_
  refine GoK.code ?_
  refine GoC.seq ?_
  refine GoC.seq ?_
  refine GoC.region ?_
  refine GoO.pure (ps_move rfl rfl) ?_
  refine GoO.pure (ps_lss rfl rfl rfl) ?_
  refine GoO.nil ?_
  refine GoK.code ?_
  first | refine GoC.condD rfl (fun h8 => ?_) (fun h8 => ?_) | refine GoC.cond rfl (fun h8 => ?_) (fun h8 => ?_)
  · skip
    refine GoC.region ?_
    refine GoO.pure (ps_move rfl rfl) ?_
    refine GoO.pure (ps_move rfl rfl) ?_
    refine GoO.pure (ps_add rfl rfl rfl ?_) ?_
    · first | exact Nat.zero_lt_one | assumption | omega | exact InI.of (by omega) (by omega) | (simp only [ints_len, bools_len, st1_len, arcs_len, lits_len, List.length_set, List.length_append, List.length_cons, List.length_nil, List.length_replicate]; omega)
    refine GoO.pure (ps_assign rfl rfl) ?_
    refine GoO.nil ?_
    refine GoK.code ?_
    refine GoC.seq ?_
    refine GoC.region ?_
    refine GoO.pure (ps_move rfl rfl) ?_
    refine GoO.pure (ps_assign rfl rfl) ?_
    refine GoO.nil ?_
    refine GoK.code ?_
    refine GoC.ret1 (H' := []) Try.results17 (ResD.tmp rfl) (by exact (Take.nil _)) ?_
    · exact ⟨by rw [e1]; first | rw [if_pos (by assumption)] | rw [if_neg (by assumption)], rfl⟩
  · skip
    refine GoC.skip ?_
    refine GoK.code ?_
    refine GoC.seq ?_
    refine GoC.region ?_
    refine GoO.pure (ps_move rfl rfl) ?_
    refine GoO.pure (ps_assign rfl rfl) ?_
    refine GoO.nil ?_
    refine GoK.code ?_
    refine GoC.ret1 (H' := []) Try.results17 (ResD.tmp rfl) (by exact (Take.nil _)) ?_
    · exact ⟨by rw [e1]; first | rw [if_pos (by assumption)] | rw [if_neg (by assumption)], rfl⟩

end Go.Proofs.Ytmgldjkgneiejaa
