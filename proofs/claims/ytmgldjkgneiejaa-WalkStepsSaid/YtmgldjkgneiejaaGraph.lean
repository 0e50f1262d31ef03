/- What the functions of graph compute, by walks through their text. -/
import Derived.Test.YtmgldjkgneiejaaTys
import Derived.Test.YtmgldjkgneiejaaDat
namespace Go.Proofs.Ytmgldjkgneiejaa
open Go Go.Proofs.Ytmgldjkgneiejaa.Sx
set_option linter.unusedVariables false
set_option linter.unusedSimpArgs false

def arc0 : Arc := ⟨0, 0, 0⟩
def checkL (n least : Int) : List Arc → Int
  | [] => 0
  | a :: r => if a.f < 0 ∨ n ≤ a.f ∨ a.t < 0 ∨ n ≤ a.t then 4 else if a.c < least ∨ 10000 < a.c then 1 else checkL n least r
def checkF (g : Graph) (least : Int) : Int := if g.n < 1 ∨ 12 < g.n then 1 else if 60 < g.as.length then 2 else checkL g.n least g.as
theorem drop_get {l : List Arc} {k : Nat} (h : k < l.length) : l.drop k = l.getD k ⟨0, 0, 0⟩ :: l.drop (k + 1) := by
  rw [List.drop_eq_getElem_cons h]; simp [h]
theorem checkL_drop (n least : Int) {l : List Arc} {k : Nat} (h : k < l.length) : checkL n least (l.drop k) =
    if (l.getD k ⟨0, 0, 0⟩).f < 0 ∨ n ≤ (l.getD k ⟨0, 0, 0⟩).f ∨ (l.getD k ⟨0, 0, 0⟩).t < 0 ∨ n ≤ (l.getD k ⟨0, 0, 0⟩).t then 4 else if (l.getD k ⟨0, 0, 0⟩).c < least ∨ 10000 < (l.getD k ⟨0, 0, 0⟩).c then 1 else checkL n least (l.drop (k + 1)) := by
  rw [drop_get h]; rfl
theorem ret_i {v : Int} {x : Int} (h : x = v) : (D.v (.int .i64 v) = D.i x ∧ ([] : List HL) = []) := ⟨by rw [h], rfl⟩
set_option maxRecDepth 100000 in
set_option maxHeartbeats 400000 in
theorem check_spec (g : Graph) (least : Int) : Does Try.prog 43 [graphD g, .i least] [] (fun d H => d = .i (checkF g least) ∧ H = []) := by
  refine Does.intro Try.func43 rfl Try.ntmps43 rfl fun w0 I0 => ?_
  refine GoC.seq ?_
  refine GoC.region ?_
  refine GoO.effB (ef_boxAg rfl rfl) (fun β1 => ?_)
  refine GoO.pure (ps_assign rfl rfl) ?_
  refine GoO.nil ?_
  refine GoK.code ?_
  refine GoC.seq ?_
  refine GoC.seq ?_
  refine GoC.region ?_
  first | refine GoO.pure (ps_fieldAddr rfl rfl) ?_ | refine GoO.pure (ps_fieldAddrR rfl rfl) ?_
  first | refine GoO.pure (ps_load rfl (by first | exact At.p0 | exact At.p1 | exact At.p2 | exact At.p3 | exact At.p4 | exact At.p5 | exact At.p6 | exact At.p7 | exact At.p8 | exact At.p9 | exact At.p10 | exact At.p11 | exact At.p12 | exact At.p13) (by first | exact At.p0 | exact At.p1 | exact At.p2 | exact At.p3 | exact At.p4 | exact At.p5 | exact At.p6 | exact At.p7 | exact At.p8 | exact At.p9 | exact At.p10 | exact At.p11 | exact At.p12 | exact At.p13) ?_ rfl rfl) ?_ | refine GoO.pure (ps_loadR rfl ?_ rfl rfl) ?_
  · first | exact Nat.zero_lt_one | assumption | omega | exact InI.of (by omega) (by omega) | (simp only [ints_len, bools_len, st1_len, arcs_len, lits_len, List.length_set, List.length_append, List.length_cons, List.length_nil, List.length_replicate]; omega)
  refine GoO.pure (ps_lss rfl rfl rfl) ?_
  refine GoO.pure (ps_move rfl rfl) ?_
  first | refine GoO.guardE rfl rfl rfl rfl (fun h7 => ?_) (fun h7 => ?_) | refine GoO.guard rfl rfl rfl rfl (fun h7 => ?_) (fun h7 => ?_)
  · skip
    first | refine GoO.pure (ps_fieldAddr rfl rfl) ?_ | refine GoO.pure (ps_fieldAddrR rfl rfl) ?_
    refine GoO.guardT rfl rfl rfl ?_
    first | refine GoO.pure (ps_load rfl (by first | exact At.p0 | exact At.p1 | exact At.p2 | exact At.p3 | exact At.p4 | exact At.p5 | exact At.p6 | exact At.p7 | exact At.p8 | exact At.p9 | exact At.p10 | exact At.p11 | exact At.p12 | exact At.p13) (by first | exact At.p0 | exact At.p1 | exact At.p2 | exact At.p3 | exact At.p4 | exact At.p5 | exact At.p6 | exact At.p7 | exact At.p8 | exact At.p9 | exact At.p10 | exact At.p11 | exact At.p12 | exact At.p13) ?_ rfl rfl) ?_ | refine GoO.pure (ps_loadR rfl ?_ rfl rfl) ?_
    · first | exact Nat.zero_lt_one | assumption | omega | exact InI.of (by omega) (by omega) | (simp only [ints_len, bools_len, st1_len, arcs_len, lits_len, List.length_set, List.length_append, List.length_cons, List.length_nil, List.length_replicate]; omega)
    refine GoO.guardT rfl rfl rfl ?_
    refine GoO.pure (ps_gtr rfl rfl rfl) ?_
    refine GoO.pure (ps_pickF rfl rfl rfl) ?_
    refine GoO.nil ?_
    refine GoK.code ?_
    first | refine GoC.condD rfl (fun h12 => ?_) (fun h12 => ?_) | refine GoC.cond rfl (fun h12 => ?_) (fun h12 => ?_)
    · skip
      refine GoC.seq ?_
      refine GoC.region ?_
      refine GoO.pure (ps_assign rfl rfl) ?_
      refine GoO.nil ?_
      refine GoK.code ?_
      refine GoC.ret1 (H' := []) Try.results43 (ResD.tmp rfl) (by exact (Take.nil _)) ?_
      · first | exact ret_i (by unfold checkF; rw [if_pos (by omega)]) | exact ret_i (by unfold checkF; rw [if_neg (by omega), if_pos (by omega)]) | exact ret_i (by unfold checkF; rw [if_neg (by omega), if_neg (by omega), ← hL, checkL_drop _ _ (k := k) (by omega), if_pos (by omega)]) | exact ret_i (by unfold checkF; rw [if_neg (by omega), if_neg (by omega), ← hL, checkL_drop _ _ (k := k) (by omega), if_neg (by omega), if_pos (by omega)]) | exact ret_i (by unfold checkF; rw [if_neg (by omega), if_neg (by omega), ← hL, List.drop_eq_nil_of_le (by omega)]; rfl)
    · skip
      refine GoC.skip ?_
      refine GoK.code ?_
      refine GoC.seq ?_
      refine GoC.seq ?_
      refine GoC.region ?_
      first | refine GoO.pure (ps_fieldAddr rfl rfl) ?_ | refine GoO.pure (ps_fieldAddrR rfl rfl) ?_
      first | refine GoO.pure (ps_load rfl (by first | exact At.p0 | exact At.p1 | exact At.p2 | exact At.p3 | exact At.p4 | exact At.p5 | exact At.p6 | exact At.p7 | exact At.p8 | exact At.p9 | exact At.p10 | exact At.p11 | exact At.p12 | exact At.p13) (by first | exact At.p0 | exact At.p1 | exact At.p2 | exact At.p3 | exact At.p4 | exact At.p5 | exact At.p6 | exact At.p7 | exact At.p8 | exact At.p9 | exact At.p10 | exact At.p11 | exact At.p12 | exact At.p13) ?_ rfl rfl) ?_ | refine GoO.pure (ps_loadR rfl ?_ rfl rfl) ?_
      · first | exact Nat.zero_lt_one | assumption | omega | exact InI.of (by omega) (by omega) | (simp only [ints_len, bools_len, st1_len, arcs_len, lits_len, List.length_set, List.length_append, List.length_cons, List.length_nil, List.length_replicate]; omega)
      refine GoO.pure (ps_len rfl (by constructor) rfl) ?_
      refine GoO.pure (ps_gtr rfl rfl rfl) ?_
      refine GoO.nil ?_
      refine GoK.code ?_
      first | refine GoC.condD rfl (fun h18 => ?_) (fun h18 => ?_) | refine GoC.cond rfl (fun h18 => ?_) (fun h18 => ?_)
      · skip
        refine GoC.seq ?_
        refine GoC.region ?_
        refine GoO.pure (ps_assign rfl rfl) ?_
        refine GoO.nil ?_
        refine GoK.code ?_
        refine GoC.ret1 (H' := []) Try.results43 (ResD.tmp rfl) (by exact (Take.nil _)) ?_
        · first | exact ret_i (by unfold checkF; rw [if_pos (by omega)]) | exact ret_i (by unfold checkF; rw [if_neg (by omega), if_pos (by omega)]) | exact ret_i (by unfold checkF; rw [if_neg (by omega), if_neg (by omega), ← hL, checkL_drop _ _ (k := k) (by omega), if_pos (by omega)]) | exact ret_i (by unfold checkF; rw [if_neg (by omega), if_neg (by omega), ← hL, checkL_drop _ _ (k := k) (by omega), if_neg (by omega), if_pos (by omega)]) | exact ret_i (by unfold checkF; rw [if_neg (by omega), if_neg (by omega), ← hL, List.drop_eq_nil_of_le (by omega)]; rfl)
      · skip
        refine GoC.skip ?_
        refine GoK.code ?_
        refine GoC.seq ?_
        refine GoC.seq ?_
        refine GoC.region ?_
        first | refine GoO.pure (ps_fieldAddr rfl rfl) ?_ | refine GoO.pure (ps_fieldAddrR rfl rfl) ?_
        first | refine GoO.pure (ps_load rfl (by first | exact At.p0 | exact At.p1 | exact At.p2 | exact At.p3 | exact At.p4 | exact At.p5 | exact At.p6 | exact At.p7 | exact At.p8 | exact At.p9 | exact At.p10 | exact At.p11 | exact At.p12 | exact At.p13) (by first | exact At.p0 | exact At.p1 | exact At.p2 | exact At.p3 | exact At.p4 | exact At.p5 | exact At.p6 | exact At.p7 | exact At.p8 | exact At.p9 | exact At.p10 | exact At.p11 | exact At.p12 | exact At.p13) ?_ rfl rfl) ?_ | refine GoO.pure (ps_loadR rfl ?_ rfl rfl) ?_
        · first | exact Nat.zero_lt_one | assumption | omega | exact InI.of (by omega) (by omega) | (simp only [ints_len, bools_len, st1_len, arcs_len, lits_len, List.length_set, List.length_append, List.length_cons, List.length_nil, List.length_replicate]; omega)
        refine GoO.pure (ps_len rfl (by constructor) rfl) ?_
        refine GoO.pure (ps_move rfl rfl) ?_
        refine GoO.nil ?_
        refine GoK.code ?_
        refine GoC.block ?_
        refine GoC.loopE (σ := Nat) [1, 2, 20, 21] (fun k => [(22, .i (k : Int))]) (fun k => []) (fun n k => n = g.as.length - k ∧ k ≤ g.as.length ∧ checkL g.n least (g.as.drop k) = checkL g.n least g.as) (g.as.length) 0 ?_ (by repeat (first | exact EnvLe.nil | refine EnvLe.cons rfl ?_)) (by exact (Take.nil _)) ?_
        · exact ⟨by omega, by omega, rfl⟩
        rintro n k ⟨rfl, hk, hL⟩
        refine GoC.seq ?_
        refine GoC.region ?_
        refine GoO.pure (ps_lss rfl rfl rfl) ?_
        refine GoO.nil ?_
        refine GoK.code ?_
        refine GoC.seq ?_
        first | refine GoC.condD rfl (fun h25 => ?_) (fun h25 => ?_) | refine GoC.cond rfl (fun h25 => ?_) (fun h25 => ?_)
        · skip
          refine GoC.skip ?_
          refine GoK.code ?_
          refine GoC.seq ?_
          refine GoC.block ?_
          refine GoC.seq ?_
          refine GoC.region ?_
          first | refine GoO.pure (ps_indexAddr0N rfl rfl ?_ rfl) ?_ | refine GoO.pure (ps_indexAddrRN rfl rfl ?_ rfl) ?_ | refine GoO.pure (ps_indexAddr0 rfl rfl ?_ rfl) ?_ | refine GoO.pure (ps_indexAddrN rfl rfl ?_ rfl) ?_ | refine GoO.pure (ps_indexAddrRN rfl rfl ?_ rfl) ?_ | refine GoO.pure (ps_indexAddr rfl rfl ?_ rfl) ?_ | refine GoO.pure (ps_indexAddrR rfl rfl ?_ rfl) ?_
          · first | exact Nat.zero_lt_one | assumption | omega | exact InI.of (by omega) (by omega) | (simp only [ints_len, bools_len, st1_len, arcs_len, lits_len, List.length_set, List.length_append, List.length_cons, List.length_nil, List.length_replicate]; omega)
          first | refine GoO.pure (ps_loadAg rfl (by first | exact At.p0 | exact At.p1 | exact At.p2 | exact At.p3 | exact At.p4 | exact At.p5 | exact At.p6 | exact At.p7 | exact At.p8 | exact At.p9 | exact At.p10 | exact At.p11 | exact At.p12 | exact At.p13) (by first | exact At.p0 | exact At.p1 | exact At.p2 | exact At.p3 | exact At.p4 | exact At.p5 | exact At.p6 | exact At.p7 | exact At.p8 | exact At.p9 | exact At.p10 | exact At.p11 | exact At.p12 | exact At.p13) ?_ rfl rfl) ?_ | refine GoO.pure (ps_loadAgR rfl ?_ rfl rfl) ?_
          · first | exact Nat.zero_lt_one | assumption | omega | exact InI.of (by omega) (by omega) | (simp only [ints_len, bools_len, st1_len, arcs_len, lits_len, List.length_set, List.length_append, List.length_cons, List.length_nil, List.length_replicate]; omega)
          refine GoO.effB (ef_alloc rfl) (fun β28 => ?_)
          refine GoO.eff1 (ef_storeAg rfl rfl (by first | exact At.p0 | exact At.p1 | exact At.p2 | exact At.p3 | exact At.p4 | exact At.p5 | exact At.p6 | exact At.p7 | exact At.p8 | exact At.p9 | exact At.p10 | exact At.p11 | exact At.p12 | exact At.p13) upd_whole Nat.zero_lt_one rfl) ?_
          refine GoO.nil ?_
          refine GoK.code ?_
          refine GoC.seq ?_
          refine GoC.seq ?_
          refine GoC.region ?_
          first | refine GoO.pure (ps_fieldAddr rfl rfl) ?_ | refine GoO.pure (ps_fieldAddrR rfl rfl) ?_
          first | refine GoO.pure (ps_load rfl (by first | exact At.p0 | exact At.p1 | exact At.p2 | exact At.p3 | exact At.p4 | exact At.p5 | exact At.p6 | exact At.p7 | exact At.p8 | exact At.p9 | exact At.p10 | exact At.p11 | exact At.p12 | exact At.p13) (by first | exact At.p0 | exact At.p1 | exact At.p2 | exact At.p3 | exact At.p4 | exact At.p5 | exact At.p6 | exact At.p7 | exact At.p8 | exact At.p9 | exact At.p10 | exact At.p11 | exact At.p12 | exact At.p13) ?_ rfl rfl) ?_ | refine GoO.pure (ps_loadR rfl ?_ rfl rfl) ?_
          · first | exact Nat.zero_lt_one | assumption | omega | exact InI.of (by omega) (by omega) | (simp only [ints_len, bools_len, st1_len, arcs_len, lits_len, List.length_set, List.length_append, List.length_cons, List.length_nil, List.length_replicate]; omega)
          refine GoO.pure (ps_lss rfl rfl rfl) ?_
          refine GoO.pure (ps_move rfl rfl) ?_
          first | refine GoO.guardE rfl rfl rfl rfl (fun h34 => ?_) (fun h34 => ?_) | refine GoO.guard rfl rfl rfl rfl (fun h34 => ?_) (fun h34 => ?_)
          · skip
            first | refine GoO.pure (ps_fieldAddr rfl rfl) ?_ | refine GoO.pure (ps_fieldAddrR rfl rfl) ?_
            refine GoO.guardT rfl rfl rfl ?_
            first | refine GoO.pure (ps_load rfl (by first | exact At.p0 | exact At.p1 | exact At.p2 | exact At.p3 | exact At.p4 | exact At.p5 | exact At.p6 | exact At.p7 | exact At.p8 | exact At.p9 | exact At.p10 | exact At.p11 | exact At.p12 | exact At.p13) (by first | exact At.p0 | exact At.p1 | exact At.p2 | exact At.p3 | exact At.p4 | exact At.p5 | exact At.p6 | exact At.p7 | exact At.p8 | exact At.p9 | exact At.p10 | exact At.p11 | exact At.p12 | exact At.p13) ?_ rfl rfl) ?_ | refine GoO.pure (ps_loadR rfl ?_ rfl rfl) ?_
            · first | exact Nat.zero_lt_one | assumption | omega | exact InI.of (by omega) (by omega) | (simp only [ints_len, bools_len, st1_len, arcs_len, lits_len, List.length_set, List.length_append, List.length_cons, List.length_nil, List.length_replicate]; omega)
            refine GoO.guardT rfl rfl rfl ?_
            first | refine GoO.pure (ps_fieldAddr rfl rfl) ?_ | refine GoO.pure (ps_fieldAddrR rfl rfl) ?_
            refine GoO.guardT rfl rfl rfl ?_
            first | refine GoO.pure (ps_load rfl (by first | exact At.p0 | exact At.p1 | exact At.p2 | exact At.p3 | exact At.p4 | exact At.p5 | exact At.p6 | exact At.p7 | exact At.p8 | exact At.p9 | exact At.p10 | exact At.p11 | exact At.p12 | exact At.p13) (by first | exact At.p0 | exact At.p1 | exact At.p2 | exact At.p3 | exact At.p4 | exact At.p5 | exact At.p6 | exact At.p7 | exact At.p8 | exact At.p9 | exact At.p10 | exact At.p11 | exact At.p12 | exact At.p13) ?_ rfl rfl) ?_ | refine GoO.pure (ps_loadR rfl ?_ rfl rfl) ?_
            · first | exact Nat.zero_lt_one | assumption | omega | exact InI.of (by omega) (by omega) | (simp only [ints_len, bools_len, st1_len, arcs_len, lits_len, List.length_set, List.length_append, List.length_cons, List.length_nil, List.length_replicate]; omega)
            refine GoO.guardT rfl rfl rfl ?_
            refine GoO.pure (ps_geq rfl rfl rfl) ?_
            refine GoO.pure (ps_pickF rfl rfl rfl) ?_
            refine GoO.pure (ps_move rfl rfl) ?_
            first | refine GoO.guardE rfl rfl rfl rfl (fun h42 => ?_) (fun h42 => ?_) | refine GoO.guard rfl rfl rfl rfl (fun h42 => ?_) (fun h42 => ?_)
            · skip
              first | refine GoO.pure (ps_fieldAddr rfl rfl) ?_ | refine GoO.pure (ps_fieldAddrR rfl rfl) ?_
              refine GoO.guardT rfl rfl rfl ?_
              first | refine GoO.pure (ps_load rfl (by first | exact At.p0 | exact At.p1 | exact At.p2 | exact At.p3 | exact At.p4 | exact At.p5 | exact At.p6 | exact At.p7 | exact At.p8 | exact At.p9 | exact At.p10 | exact At.p11 | exact At.p12 | exact At.p13) (by first | exact At.p0 | exact At.p1 | exact At.p2 | exact At.p3 | exact At.p4 | exact At.p5 | exact At.p6 | exact At.p7 | exact At.p8 | exact At.p9 | exact At.p10 | exact At.p11 | exact At.p12 | exact At.p13) ?_ rfl rfl) ?_ | refine GoO.pure (ps_loadR rfl ?_ rfl rfl) ?_
              · first | exact Nat.zero_lt_one | assumption | omega | exact InI.of (by omega) (by omega) | (simp only [ints_len, bools_len, st1_len, arcs_len, lits_len, List.length_set, List.length_append, List.length_cons, List.length_nil, List.length_replicate]; omega)
              refine GoO.guardT rfl rfl rfl ?_
              refine GoO.pure (ps_lss rfl rfl rfl) ?_
              refine GoO.pure (ps_pickF rfl rfl rfl) ?_
              refine GoO.pure (ps_move rfl rfl) ?_
              first | refine GoO.guardE rfl rfl rfl rfl (fun h48 => ?_) (fun h48 => ?_) | refine GoO.guard rfl rfl rfl rfl (fun h48 => ?_) (fun h48 => ?_)
              · skip
                first | refine GoO.pure (ps_fieldAddr rfl rfl) ?_ | refine GoO.pure (ps_fieldAddrR rfl rfl) ?_
                refine GoO.guardT rfl rfl rfl ?_
                first | refine GoO.pure (ps_load rfl (by first | exact At.p0 | exact At.p1 | exact At.p2 | exact At.p3 | exact At.p4 | exact At.p5 | exact At.p6 | exact At.p7 | exact At.p8 | exact At.p9 | exact At.p10 | exact At.p11 | exact At.p12 | exact At.p13) (by first | exact At.p0 | exact At.p1 | exact At.p2 | exact At.p3 | exact At.p4 | exact At.p5 | exact At.p6 | exact At.p7 | exact At.p8 | exact At.p9 | exact At.p10 | exact At.p11 | exact At.p12 | exact At.p13) ?_ rfl rfl) ?_ | refine GoO.pure (ps_loadR rfl ?_ rfl rfl) ?_
                · first | exact Nat.zero_lt_one | assumption | omega | exact InI.of (by omega) (by omega) | (simp only [ints_len, bools_len, st1_len, arcs_len, lits_len, List.length_set, List.length_append, List.length_cons, List.length_nil, List.length_replicate]; omega)
                refine GoO.guardT rfl rfl rfl ?_
                first | refine GoO.pure (ps_fieldAddr rfl rfl) ?_ | refine GoO.pure (ps_fieldAddrR rfl rfl) ?_
                refine GoO.guardT rfl rfl rfl ?_
                first | refine GoO.pure (ps_load rfl (by first | exact At.p0 | exact At.p1 | exact At.p2 | exact At.p3 | exact At.p4 | exact At.p5 | exact At.p6 | exact At.p7 | exact At.p8 | exact At.p9 | exact At.p10 | exact At.p11 | exact At.p12 | exact At.p13) (by first | exact At.p0 | exact At.p1 | exact At.p2 | exact At.p3 | exact At.p4 | exact At.p5 | exact At.p6 | exact At.p7 | exact At.p8 | exact At.p9 | exact At.p10 | exact At.p11 | exact At.p12 | exact At.p13) ?_ rfl rfl) ?_ | refine GoO.pure (ps_loadR rfl ?_ rfl rfl) ?_
                · first | exact Nat.zero_lt_one | assumption | omega | exact InI.of (by omega) (by omega) | (simp only [ints_len, bools_len, st1_len, arcs_len, lits_len, List.length_set, List.length_append, List.length_cons, List.length_nil, List.length_replicate]; omega)
                refine GoO.guardT rfl rfl rfl ?_
                refine GoO.pure (ps_geq rfl rfl rfl) ?_
                refine GoO.pure (ps_pickF rfl rfl rfl) ?_
                refine GoO.nil ?_
                refine GoK.code ?_
                first | refine GoC.condD rfl (fun h55 => ?_) (fun h55 => ?_) | refine GoC.cond rfl (fun h55 => ?_) (fun h55 => ?_)
                · skip
                  refine GoC.seq ?_
                  refine GoC.region ?_
                  refine GoO.pure (ps_assign rfl rfl) ?_
                  refine GoO.nil ?_
                  refine GoK.code ?_
                  refine GoC.ret1 (H' := []) Try.results43 (ResD.tmp rfl) (by exact (Take.nil _)) ?_
                  · first | exact ret_i (by unfold checkF; rw [if_pos (by omega)]) | exact ret_i (by unfold checkF; rw [if_neg (by omega), if_pos (by omega)]) | exact ret_i (by unfold checkF; rw [if_neg (by omega), if_neg (by omega), ← hL, checkL_drop _ _ (k := k) (by omega), if_pos (by omega)]) | exact ret_i (by unfold checkF; rw [if_neg (by omega), if_neg (by omega), ← hL, checkL_drop _ _ (k := k) (by omega), if_neg (by omega), if_pos (by omega)]) | exact ret_i (by unfold checkF; rw [if_neg (by omega), if_neg (by omega), ← hL, List.drop_eq_nil_of_le (by omega)]; rfl)
                · skip
                  refine GoC.skip ?_
                  refine GoK.code ?_
                  refine GoC.seq ?_
                  refine GoC.region ?_
                  first | refine GoO.pure (ps_fieldAddr rfl rfl) ?_ | refine GoO.pure (ps_fieldAddrR rfl rfl) ?_
                  first | refine GoO.pure (ps_load rfl (by first | exact At.p0 | exact At.p1 | exact At.p2 | exact At.p3 | exact At.p4 | exact At.p5 | exact At.p6 | exact At.p7 | exact At.p8 | exact At.p9 | exact At.p10 | exact At.p11 | exact At.p12 | exact At.p13) (by first | exact At.p0 | exact At.p1 | exact At.p2 | exact At.p3 | exact At.p4 | exact At.p5 | exact At.p6 | exact At.p7 | exact At.p8 | exact At.p9 | exact At.p10 | exact At.p11 | exact At.p12 | exact At.p13) ?_ rfl rfl) ?_ | refine GoO.pure (ps_loadR rfl ?_ rfl rfl) ?_
                  · first | exact Nat.zero_lt_one | assumption | omega | exact InI.of (by omega) (by omega) | (simp only [ints_len, bools_len, st1_len, arcs_len, lits_len, List.length_set, List.length_append, List.length_cons, List.length_nil, List.length_replicate]; omega)
                  refine GoO.pure (ps_move rfl rfl) ?_
                  refine GoO.pure (ps_lss rfl rfl rfl) ?_
                  refine GoO.pure (ps_move rfl rfl) ?_
                  first | refine GoO.guardE rfl rfl rfl rfl (fun h62 => ?_) (fun h62 => ?_) | refine GoO.guard rfl rfl rfl rfl (fun h62 => ?_) (fun h62 => ?_)
                  · skip
                    first | refine GoO.pure (ps_fieldAddr rfl rfl) ?_ | refine GoO.pure (ps_fieldAddrR rfl rfl) ?_
                    refine GoO.guardT rfl rfl rfl ?_
                    first | refine GoO.pure (ps_load rfl (by first | exact At.p0 | exact At.p1 | exact At.p2 | exact At.p3 | exact At.p4 | exact At.p5 | exact At.p6 | exact At.p7 | exact At.p8 | exact At.p9 | exact At.p10 | exact At.p11 | exact At.p12 | exact At.p13) (by first | exact At.p0 | exact At.p1 | exact At.p2 | exact At.p3 | exact At.p4 | exact At.p5 | exact At.p6 | exact At.p7 | exact At.p8 | exact At.p9 | exact At.p10 | exact At.p11 | exact At.p12 | exact At.p13) ?_ rfl rfl) ?_ | refine GoO.pure (ps_loadR rfl ?_ rfl rfl) ?_
                    · first | exact Nat.zero_lt_one | assumption | omega | exact InI.of (by omega) (by omega) | (simp only [ints_len, bools_len, st1_len, arcs_len, lits_len, List.length_set, List.length_append, List.length_cons, List.length_nil, List.length_replicate]; omega)
                    refine GoO.guardT rfl rfl rfl ?_
                    refine GoO.pure (ps_gtr rfl rfl rfl) ?_
                    refine GoO.pure (ps_pickF rfl rfl rfl) ?_
                    refine GoO.nil ?_
                    refine GoK.code ?_
                    first | refine GoC.condD rfl (fun h67 => ?_) (fun h67 => ?_) | refine GoC.cond rfl (fun h67 => ?_) (fun h67 => ?_)
                    · skip
                      refine GoC.seq ?_
                      refine GoC.region ?_
                      refine GoO.pure (ps_assign rfl rfl) ?_
                      refine GoO.nil ?_
                      refine GoK.code ?_
                      refine GoC.ret1 (H' := []) Try.results43 (ResD.tmp rfl) (by exact (Take.nil _)) ?_
                      · first | exact ret_i (by unfold checkF; rw [if_pos (by omega)]) | exact ret_i (by unfold checkF; rw [if_neg (by omega), if_pos (by omega)]) | exact ret_i (by unfold checkF; rw [if_neg (by omega), if_neg (by omega), ← hL, checkL_drop _ _ (k := k) (by omega), if_pos (by omega)]) | exact ret_i (by unfold checkF; rw [if_neg (by omega), if_neg (by omega), ← hL, checkL_drop _ _ (k := k) (by omega), if_neg (by omega), if_pos (by omega)]) | exact ret_i (by unfold checkF; rw [if_neg (by omega), if_neg (by omega), ← hL, List.drop_eq_nil_of_le (by omega)]; rfl)
                    · skip
                      refine GoC.skip ?_
                      refine GoK.blk ?_
                      refine GoK.code ?_
                      refine GoC.region ?_
                      refine GoO.pure (ps_add rfl rfl rfl ?_) ?_
                      · first | exact Nat.zero_lt_one | assumption | omega | exact InI.of (by omega) (by omega) | (simp only [ints_len, bools_len, st1_len, arcs_len, lits_len, List.length_set, List.length_append, List.length_cons, List.length_nil, List.length_replicate]; omega)
                      refine GoO.pure (ps_move rfl rfl) ?_
                      refine GoO.nil ?_
                      refine GoK.againE (g.as.length - (k + 1)) ((k + 1)) ?_ ?_ (by repeat (first | exact EnvLe.nil | refine EnvLe.cons rfl ?_)) (by repeat (first | exact Tk.all _ | exact Tk.nil | refine Tk.cons (by first | exact Rem.p0 | exact Rem.p1 | exact Rem.p2 | exact Rem.p3 | exact Rem.p4 | exact Rem.p5 | exact Rem.p6 | exact Rem.p7 | exact Rem.p8 | exact Rem.p9 | exact Rem.p10 | exact Rem.p11 | exact Rem.p12 | exact Rem.p13) ?_))
                      · omega
                      · exact ⟨rfl, by omega, by rw [← hL, checkL_drop _ _ (k := k) (by omega), if_neg (by omega), if_neg (by omega)]⟩
                  · skip
                    refine GoO.guardF rfl rfl rfl rfl ?_
                    refine GoO.guardF rfl rfl rfl rfl ?_
                    refine GoO.pure (ps_pickT rfl rfl rfl) ?_
                    refine GoO.nil ?_
                    refine GoK.code ?_
                    refine GoC.condT rfl ?_
                    refine GoC.seq ?_
                    refine GoC.region ?_
                    refine GoO.pure (ps_assign rfl rfl) ?_
                    refine GoO.nil ?_
                    refine GoK.code ?_
                    refine GoC.ret1 (H' := []) Try.results43 (ResD.tmp rfl) (by exact (Take.nil _)) ?_
                    · first | exact ret_i (by unfold checkF; rw [if_pos (by omega)]) | exact ret_i (by unfold checkF; rw [if_neg (by omega), if_pos (by omega)]) | exact ret_i (by unfold checkF; rw [if_neg (by omega), if_neg (by omega), ← hL, checkL_drop _ _ (k := k) (by omega), if_pos (by omega)]) | exact ret_i (by unfold checkF; rw [if_neg (by omega), if_neg (by omega), ← hL, checkL_drop _ _ (k := k) (by omega), if_neg (by omega), if_pos (by omega)]) | exact ret_i (by unfold checkF; rw [if_neg (by omega), if_neg (by omega), ← hL, List.drop_eq_nil_of_le (by omega)]; rfl)
              · skip
                refine GoO.guardF rfl rfl rfl rfl ?_
                refine GoO.guardF rfl rfl rfl rfl ?_
                refine GoO.guardF rfl rfl rfl rfl ?_
                refine GoO.guardF rfl rfl rfl rfl ?_
                refine GoO.pure (ps_pickT rfl rfl rfl) ?_
                refine GoO.nil ?_
                refine GoK.code ?_
                refine GoC.condT rfl ?_
                refine GoC.seq ?_
                refine GoC.region ?_
                refine GoO.pure (ps_assign rfl rfl) ?_
                refine GoO.nil ?_
                refine GoK.code ?_
                refine GoC.ret1 (H' := []) Try.results43 (ResD.tmp rfl) (by exact (Take.nil _)) ?_
                · first | exact ret_i (by unfold checkF; rw [if_pos (by omega)]) | exact ret_i (by unfold checkF; rw [if_neg (by omega), if_pos (by omega)]) | exact ret_i (by unfold checkF; rw [if_neg (by omega), if_neg (by omega), ← hL, checkL_drop _ _ (k := k) (by omega), if_pos (by omega)]) | exact ret_i (by unfold checkF; rw [if_neg (by omega), if_neg (by omega), ← hL, checkL_drop _ _ (k := k) (by omega), if_neg (by omega), if_pos (by omega)]) | exact ret_i (by unfold checkF; rw [if_neg (by omega), if_neg (by omega), ← hL, List.drop_eq_nil_of_le (by omega)]; rfl)
            · skip
              refine GoO.guardF rfl rfl rfl rfl ?_
              refine GoO.guardF rfl rfl rfl rfl ?_
              refine GoO.pure (ps_pickT rfl rfl rfl) ?_
              refine GoO.pure (ps_move rfl rfl) ?_
              refine GoO.guardF rfl rfl rfl rfl ?_
              refine GoO.guardF rfl rfl rfl rfl ?_
              refine GoO.guardF rfl rfl rfl rfl ?_
              refine GoO.guardF rfl rfl rfl rfl ?_
              refine GoO.guardF rfl rfl rfl rfl ?_
              refine GoO.pure (ps_pickT rfl rfl rfl) ?_
              refine GoO.nil ?_
              refine GoK.code ?_
              refine GoC.condT rfl ?_
              refine GoC.seq ?_
              refine GoC.region ?_
              refine GoO.pure (ps_assign rfl rfl) ?_
              refine GoO.nil ?_
              refine GoK.code ?_
              refine GoC.ret1 (H' := []) Try.results43 (ResD.tmp rfl) (by exact (Take.nil _)) ?_
              · first | exact ret_i (by unfold checkF; rw [if_pos (by omega)]) | exact ret_i (by unfold checkF; rw [if_neg (by omega), if_pos (by omega)]) | exact ret_i (by unfold checkF; rw [if_neg (by omega), if_neg (by omega), ← hL, checkL_drop _ _ (k := k) (by omega), if_pos (by omega)]) | exact ret_i (by unfold checkF; rw [if_neg (by omega), if_neg (by omega), ← hL, checkL_drop _ _ (k := k) (by omega), if_neg (by omega), if_pos (by omega)]) | exact ret_i (by unfold checkF; rw [if_neg (by omega), if_neg (by omega), ← hL, List.drop_eq_nil_of_le (by omega)]; rfl)
          · skip
            refine GoO.guardF rfl rfl rfl rfl ?_
            refine GoO.guardF rfl rfl rfl rfl ?_
            refine GoO.guardF rfl rfl rfl rfl ?_
            refine GoO.guardF rfl rfl rfl rfl ?_
            refine GoO.pure (ps_pickT rfl rfl rfl) ?_
            refine GoO.pure (ps_move rfl rfl) ?_
            refine GoO.guardF rfl rfl rfl rfl ?_
            refine GoO.guardF rfl rfl rfl rfl ?_
            refine GoO.guardF rfl rfl rfl rfl ?_
            refine GoO.pure (ps_pickT rfl rfl rfl) ?_
            refine GoO.pure (ps_move rfl rfl) ?_
            refine GoO.guardF rfl rfl rfl rfl ?_
            refine GoO.guardF rfl rfl rfl rfl ?_
            refine GoO.guardF rfl rfl rfl rfl ?_
            refine GoO.guardF rfl rfl rfl rfl ?_
            refine GoO.guardF rfl rfl rfl rfl ?_
            refine GoO.pure (ps_pickT rfl rfl rfl) ?_
            refine GoO.nil ?_
            refine GoK.code ?_
            refine GoC.condT rfl ?_
            refine GoC.seq ?_
            refine GoC.region ?_
            refine GoO.pure (ps_assign rfl rfl) ?_
            refine GoO.nil ?_
            refine GoK.code ?_
            refine GoC.ret1 (H' := []) Try.results43 (ResD.tmp rfl) (by exact (Take.nil _)) ?_
            · first | exact ret_i (by unfold checkF; rw [if_pos (by omega)]) | exact ret_i (by unfold checkF; rw [if_neg (by omega), if_pos (by omega)]) | exact ret_i (by unfold checkF; rw [if_neg (by omega), if_neg (by omega), ← hL, checkL_drop _ _ (k := k) (by omega), if_pos (by omega)]) | exact ret_i (by unfold checkF; rw [if_neg (by omega), if_neg (by omega), ← hL, checkL_drop _ _ (k := k) (by omega), if_neg (by omega), if_pos (by omega)]) | exact ret_i (by unfold checkF; rw [if_neg (by omega), if_neg (by omega), ← hL, List.drop_eq_nil_of_le (by omega)]; rfl)
        · skip
          refine GoC.exit rfl ?_
          refine GoK.code ?_
          refine GoC.seq ?_
          refine GoC.region ?_
          refine GoO.pure (ps_assign rfl rfl) ?_
          refine GoO.nil ?_
          refine GoK.code ?_
          refine GoC.ret1 (H' := []) Try.results43 (ResD.tmp rfl) (by exact (Take.nil _)) ?_
          · first | exact ret_i (by unfold checkF; rw [if_pos (by omega)]) | exact ret_i (by unfold checkF; rw [if_neg (by omega), if_pos (by omega)]) | exact ret_i (by unfold checkF; rw [if_neg (by omega), if_neg (by omega), ← hL, checkL_drop _ _ (k := k) (by omega), if_pos (by omega)]) | exact ret_i (by unfold checkF; rw [if_neg (by omega), if_neg (by omega), ← hL, checkL_drop _ _ (k := k) (by omega), if_neg (by omega), if_pos (by omega)]) | exact ret_i (by unfold checkF; rw [if_neg (by omega), if_neg (by omega), ← hL, List.drop_eq_nil_of_le (by omega)]; rfl)
  · skip
    refine GoO.guardF rfl rfl rfl rfl ?_
    refine GoO.guardF rfl rfl rfl rfl ?_
    refine GoO.pure (ps_pickT rfl rfl rfl) ?_
    refine GoO.nil ?_
    refine GoK.code ?_
    refine GoC.condT rfl ?_
    refine GoC.seq ?_
    refine GoC.region ?_
    refine GoO.pure (ps_assign rfl rfl) ?_
    refine GoO.nil ?_
    refine GoK.code ?_
    refine GoC.ret1 (H' := []) Try.results43 (ResD.tmp rfl) (by exact (Take.nil _)) ?_
    · first | exact ret_i (by unfold checkF; rw [if_pos (by omega)]) | exact ret_i (by unfold checkF; rw [if_neg (by omega), if_pos (by omega)]) | exact ret_i (by unfold checkF; rw [if_neg (by omega), if_neg (by omega), ← hL, checkL_drop _ _ (k := k) (by omega), if_pos (by omega)]) | exact ret_i (by unfold checkF; rw [if_neg (by omega), if_neg (by omega), ← hL, checkL_drop _ _ (k := k) (by omega), if_neg (by omega), if_pos (by omega)]) | exact ret_i (by unfold checkF; rw [if_neg (by omega), if_neg (by omega), ← hL, List.drop_eq_nil_of_le (by omega)]; rfl)

end Go.Proofs.Ytmgldjkgneiejaa
