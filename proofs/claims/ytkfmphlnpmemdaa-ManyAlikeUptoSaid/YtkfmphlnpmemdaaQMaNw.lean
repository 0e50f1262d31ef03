import Derived.Test.YtkfmphlnpmemdaaQMaN
set_option linter.unusedVariables false
set_option linter.unusedSimpArgs false
namespace Go.Proofs.Ytkfmphlnpmemdaa.Sx
open Go Go.Conc Go.ConcN Go.RowKit Go.Conc.Lib Go.ConcR.Gen Go.ConcN.Gen
open Go.ConcR (KK wgBlock WgAt stA smA rd wr mk Payload Aside2 DC0)
variable {L : WgLink}
set_option maxRecDepth 100000 in
set_option maxHeartbeats 8000000 in
theorem waitRoundY {P : Program} (H : WgLib P L) {Wg : Nat} {b₀ : Frame} {a₀ : Act} {ops₀ : Array Oper} {i₀ : Nat} {rest₀ : List Nat} {k₀ : List Item} {cs : List Frame} (g : Goroutine) (w : World)
    (h : AnchY L Wg (b₀.at a₀ (.inRegion ops₀ (i₀ :: rest₀) :: k₀)) cs g w) (hF : WgLive L.tWg Wg w) :
    ∃ m, Goes P true (Rl L.tWg Wg) DC0 (Cw1 P L.tWg Wg (G (b₀.at (a₀.put ((ops₀[i₀]?).bind (·.dst)) (.tuple #[])) (.inRegion ops₀ rest₀ :: k₀)) cs) (AnchY L Wg (b₀.at a₀ (.inRegion ops₀ (i₀ :: rest₀) :: k₀)) cs)) m g w := by
  lib_facts
  obtain ⟨T, rfl, hT84, t0⟩ := h
  obtain ⟨v0, v1, v2, v3, v4, v5, v6, v7, v8, v9, v10, v11, v12, v13, v14, v15, v16, v17, v18, v19, v20, v21, v22, v23, v24, v25, v26, v27, v28, v29, v30, v31, v32, v33, v34, v35, v36, v37, v38, v39, v40, v41, v42, v43, v44, v45, v46, v47, v48, v49, v50, v51, v52, v53, v54, v55, v56, v57, v58, v59, v60, v61, v62, v63, v64, v65, v66, v67, v68, v69, v70, v71, v72, v73, v74, v75, v76, v77, v78, v79, v80, v81, v82, v83, rfl⟩ := array84 T hT84
  simp only [List.getElem?_toArray, List.getElem?_cons_zero, Option.some.injEq] at t0
  subst t0
  refine ⟨40, ?_⟩
  simp only [L7, body_wait, waitFn, Option.getD_some]
  repeat (first | with_reducible refine y_seq ?_ | (with_reducible refine y_region ?_; simp only [List.size_toArray, List.length_cons, List.length_nil, Nat.reduceAdd, Nat.zero_add, List.range, List.range.loop]) | with_reducible refine y_region_end ?_ | (with_reducible refine y_op ?_; first | (refine y_skip rfl rfl ?_; walk_nrm) | (refine y_value _ rfl rfl rfl (by k_ne) (fun _ => ⟨by go_simp; (try w_num); exact rfl, by simp [go_sem, *]⟩) ?_; walk_nrm) | u_defer rl hF | u_bub rl hF | u_call H.f_uAdd (nm_uAdd L) uAddFn rl hF | u_call H.f_uLoad (nm_uLoad L) uLoadFn rl hF | u_call H.f_uStore (nm_uStore L) uStoreFn rl hF | u_call H.f_uCas (nm_uCas L) uCasFn rl hF) | (with_reducible refine y_cond ?_; first | refine y_condT rfl ?_ | refine y_condF rfl ?_) | with_reducible refine y_code_skip ?_ | with_reducible refine y_ret ?_ | with_reducible refine y_end ?_ | with_reducible refine y_block ?_ | with_reducible refine y_loop ?_ | with_reducible refine y_inBlock ?_ | with_reducible refine y_inLoop ?_ | (with_reducible refine y_exit0 ?_; refine y_exit rfl ?_) | u_leave1 H.f_uAdd rl hF | u_leave1 H.f_uLoad rl hF | u_leave0 H.f_uStore rl hF | u_leave1 H.f_uCas rl hF)
  refine Goes.stop (fun w₁ h₁ => ?_)
  clear h₁ hF
  refine ⟨rfl, fun v hv hw => ?_⟩
  rcases Nat.eq_zero_or_pos v with rfl | hvp
  · replace hw : WgAt L.tWg Wg w₁ 0 0 := by simpa using hw
    refine ⟨_, stepG_load_atomic rfl rfl (by k_ne) rfl H.f_loadU64 (x_loadU64_n L) (x_loadU64_b L) (x_loadU64_x L) .u64 (x_loadU64_f L) rfl hw.cellSt, fun _ => ⟨150, ?_⟩, fun h => absurd rfl h⟩
    have hF : WgLive L.tWg Wg w₁ := ⟨_, _, hw⟩
    clear hw
    walk_nrm
    repeat (first | with_reducible refine y_seq ?_ | (with_reducible refine y_region ?_; simp only [List.size_toArray, List.length_cons, List.length_nil, Nat.reduceAdd, Nat.zero_add, List.range, List.range.loop]) | with_reducible refine y_region_end ?_ | (with_reducible refine y_op ?_; first | (refine y_skip rfl rfl ?_; walk_nrm) | (refine y_value _ rfl rfl rfl (by k_ne) (fun _ => ⟨by go_simp; (try w_num); exact rfl, by simp [go_sem, *]⟩) ?_; walk_nrm) | u_defer rl hF | u_bub rl hF | u_call H.f_uAdd (nm_uAdd L) uAddFn rl hF | u_call H.f_uLoad (nm_uLoad L) uLoadFn rl hF | u_call H.f_uStore (nm_uStore L) uStoreFn rl hF | u_call H.f_uCas (nm_uCas L) uCasFn rl hF) | (with_reducible refine y_cond ?_; first | refine y_condT rfl ?_ | refine y_condF rfl ?_) | with_reducible refine y_code_skip ?_ | with_reducible refine y_ret ?_ | with_reducible refine y_end ?_ | with_reducible refine y_block ?_ | with_reducible refine y_loop ?_ | with_reducible refine y_inBlock ?_ | with_reducible refine y_inLoop ?_ | (with_reducible refine y_exit0 ?_; refine y_exit rfl ?_) | u_leave1 H.f_uAdd rl hF | u_leave1 H.f_uLoad rl hF | u_leave0 H.f_uStore rl hF | u_leave1 H.f_uCas rl hF)
    refine Goes.stop (fun w₅ h₅ => ?_)
    replace hF := rl hF h₅
    clear h₅
    refine ⟨rfl, _, stepG_mark0 .enable (by simp) rfl rfl (by k_ne) rfl H.f_enable (x_enable_n L) (x_enable_b L) (x_enable_x L) (x_enable_f L), 20, ?_⟩
    walk_nrm
    repeat (first | with_reducible refine y_seq ?_ | (with_reducible refine y_region ?_; simp only [List.size_toArray, List.length_cons, List.length_nil, Nat.reduceAdd, Nat.zero_add, List.range, List.range.loop]) | with_reducible refine y_region_end ?_ | (with_reducible refine y_op ?_; first | (refine y_skip rfl rfl ?_; walk_nrm) | (refine y_value _ rfl rfl rfl (by k_ne) (fun _ => ⟨by go_simp; (try w_num); exact rfl, by simp [go_sem, *]⟩) ?_; walk_nrm) | u_defer rl hF | u_bub rl hF | u_call H.f_uAdd (nm_uAdd L) uAddFn rl hF | u_call H.f_uLoad (nm_uLoad L) uLoadFn rl hF | u_call H.f_uStore (nm_uStore L) uStoreFn rl hF | u_call H.f_uCas (nm_uCas L) uCasFn rl hF) | (with_reducible refine y_cond ?_; first | refine y_condT rfl ?_ | refine y_condF rfl ?_) | with_reducible refine y_code_skip ?_ | with_reducible refine y_ret ?_ | with_reducible refine y_end ?_ | with_reducible refine y_block ?_ | with_reducible refine y_loop ?_ | with_reducible refine y_inBlock ?_ | with_reducible refine y_inLoop ?_ | (with_reducible refine y_exit0 ?_; refine y_exit rfl ?_) | u_leave1 H.f_uAdd rl hF | u_leave1 H.f_uLoad rl hF | u_leave0 H.f_uStore rl hF | u_leave1 H.f_uCas rl hF)
    u_conv H.underlying_tWgP H.room_tWg (WgLive.cell0 hF).choose_spec rl hF
    refine Goes.stop (fun w₆ h₆ => ?_)
    replace hF := rl hF h₆
    clear h₆
    refine ⟨rfl, _, stepG_markAt .acquire (by simp) rfl rfl (by k_ne) rfl H.f_acquire (x_acquire_n L) (x_acquire_b L) (x_acquire_x L) (x_acquire_f L) (by simp [Act.eval, stA]), 60, ?_⟩
    walk_nrm
    repeat (first | with_reducible refine y_seq ?_ | (with_reducible refine y_region ?_; simp only [List.size_toArray, List.length_cons, List.length_nil, Nat.reduceAdd, Nat.zero_add, List.range, List.range.loop]) | with_reducible refine y_region_end ?_ | (with_reducible refine y_op ?_; first | (refine y_skip rfl rfl ?_; walk_nrm) | (refine y_value _ rfl rfl rfl (by k_ne) (fun _ => ⟨by go_simp; (try w_num); exact rfl, by simp [go_sem, *]⟩) ?_; walk_nrm) | u_defer rl hF | u_bub rl hF | u_call H.f_uAdd (nm_uAdd L) uAddFn rl hF | u_call H.f_uLoad (nm_uLoad L) uLoadFn rl hF | u_call H.f_uStore (nm_uStore L) uStoreFn rl hF | u_call H.f_uCas (nm_uCas L) uCasFn rl hF) | (with_reducible refine y_cond ?_; first | refine y_condT rfl ?_ | refine y_condF rfl ?_) | with_reducible refine y_code_skip ?_ | with_reducible refine y_ret ?_ | with_reducible refine y_end ?_ | with_reducible refine y_block ?_ | with_reducible refine y_loop ?_ | with_reducible refine y_inBlock ?_ | with_reducible refine y_inLoop ?_ | (with_reducible refine y_exit0 ?_; refine y_exit rfl ?_) | u_leave1 H.f_uAdd rl hF | u_leave1 H.f_uLoad rl hF | u_leave0 H.f_uStore rl hF | u_leave1 H.f_uCas rl hF)
    u_leave0 H.f_wait rl hF
    exact Goes.stop fun _ _ => rfl
  · have hF : WgLive L.tWg Wg w₁ := ⟨_, _, hw⟩
    obtain ⟨S, hS⟩ : ∃ S : Int, S = (v : Int) * KK := ⟨_, rfl⟩
    rw [← hS] at hw
    have a1 : S / 4294967296 = (v : Int) := by rw [hS]; simp only [KK]; omega
    have a2 : 0 ≤ S ∧ S < 9223372036854775808 := by rw [hS]; simp only [KK]; omega
    have b1 : bits .and .u64 S 2147483648 = 0 := by rw [hS]; have := st_flag v 0 (by omega) (by omega); simpa [KK] using this
    have b2 : bits .and .u64 S 2147483647 = 0 := by rw [hS]; have := st_waiters v 0 (by omega) (by omega); simpa [KK] using this
    refine ⟨_, stepG_load_atomic rfl rfl (by k_ne) rfl H.f_loadU64 (x_loadU64_n L) (x_loadU64_b L) (x_loadU64_x L) .u64 (x_loadU64_f L) rfl hw.cellSt, fun h => absurd h (by omega), fun _ => ⟨150, ?_⟩⟩
    clear hw
    walk_nrm
    have hSv : ∀ v' : Nat, (v' : Int) * KK = S ↔ v' = v := fun v' => by rw [hS]; simp only [KK]; omega
    clear hS
    have eS1 : IntKind.u64.wrap (S + 1) = S + 1 := by rw [IntKind.wrap_u64]; omega
    repeat (first | with_reducible refine y_seq ?_ | (with_reducible refine y_region ?_; simp only [List.size_toArray, List.length_cons, List.length_nil, Nat.reduceAdd, Nat.zero_add, List.range, List.range.loop]) | with_reducible refine y_region_end ?_ | (with_reducible refine y_op ?_; first | (refine y_skip rfl rfl ?_; walk_nrm) | (refine y_valueI _ rfl rfl rfl (by k_ne) (fun _ => ⟨by go_simp; (try w_num); exact rfl, by simp [go_sem, *]⟩) ?_; walk_nrm) | (refine y_value (.bool false) rfl rfl rfl (by k_ne) (fun _ => ⟨by go_simp; (first | done | omega | (w_num; omega) | w_num | decide), by simp [go_sem, *]⟩) ?_; walk_nrm) | (refine y_value (.bool true) rfl rfl rfl (by k_ne) (fun _ => ⟨by go_simp; (first | done | omega | (w_num; omega) | w_num | decide), by simp [go_sem, *]⟩) ?_; walk_nrm) | (refine y_value _ rfl rfl rfl (by k_ne) (fun _ => ⟨by go_simp; (try w_num); exact rfl, by simp [go_sem, *]⟩) ?_; walk_nrm) | u_defer rl hF | u_bub rl hF | u_call H.f_uAdd (nm_uAdd L) uAddFn rl hF | u_call H.f_uLoad (nm_uLoad L) uLoadFn rl hF | u_call H.f_uStore (nm_uStore L) uStoreFn rl hF | u_call H.f_uCas (nm_uCas L) uCasFn rl hF) | (with_reducible refine y_cond ?_; first | refine y_condT rfl ?_ | refine y_condF rfl ?_) | with_reducible refine y_code_skip ?_ | with_reducible refine y_ret ?_ | with_reducible refine y_end ?_ | with_reducible refine y_block ?_ | with_reducible refine y_loop ?_ | with_reducible refine y_inBlock ?_ | with_reducible refine y_inLoop ?_ | (with_reducible refine y_exit0 ?_; refine y_exit rfl ?_) | u_leave1 H.f_uAdd rl hF | u_leave1 H.f_uLoad rl hF | u_leave0 H.f_uStore rl hF | u_leave1 H.f_uCas rl hF)
    refine Goes.stop (fun w₂ h₂ => ?_)
    replace hF := rl hF h₂
    clear h₂
    refine ⟨rfl, fun v' hv' hw => ⟨fun e => ?_, fun e => ?_⟩⟩
    · subst e
      rw [(hSv v').2 rfl] at hw ⊢
      refine ⟨_, (stepG_cas_hit (v := S) (n := S + 1) rfl rfl (by k_ne) rfl H.f_casU64 (x_casU64_n L) (x_casU64_b L) (x_casU64_x L) .u64 (x_casU64_f L) rfl rfl (by simp [Act.eval]; try omega) hw.cellSt (hw.thaw 0)).trans (by rfl), 150, ?_⟩
      replace hF : WgLive L.tWg Wg (w₂.setCell (stA Wg) (.int .u64 (S + 1))) := ⟨_, _, hw.setSt _⟩
      clear hw
      walk_nrm
      repeat (first | with_reducible refine y_seq ?_ | (with_reducible refine y_region ?_; simp only [List.size_toArray, List.length_cons, List.length_nil, Nat.reduceAdd, Nat.zero_add, List.range, List.range.loop]) | with_reducible refine y_region_end ?_ | (with_reducible refine y_op ?_; first | (refine y_skip rfl rfl ?_; walk_nrm) | (refine y_valueI _ rfl rfl rfl (by k_ne) (fun _ => ⟨by go_simp; (try w_num); exact rfl, by simp [go_sem, *]⟩) ?_; walk_nrm) | (refine y_value (.bool false) rfl rfl rfl (by k_ne) (fun _ => ⟨by go_simp; (first | done | omega | (w_num; omega) | w_num | decide), by simp [go_sem, *]⟩) ?_; walk_nrm) | (refine y_value (.bool true) rfl rfl rfl (by k_ne) (fun _ => ⟨by go_simp; (first | done | omega | (w_num; omega) | w_num | decide), by simp [go_sem, *]⟩) ?_; walk_nrm) | (refine y_value _ rfl rfl rfl (by k_ne) (fun _ => ⟨by go_simp; (try w_num); exact rfl, by simp [go_sem, *]⟩) ?_; walk_nrm) | u_defer rl hF | u_bub rl hF | u_call H.f_uAdd (nm_uAdd L) uAddFn rl hF | u_call H.f_uLoad (nm_uLoad L) uLoadFn rl hF | u_call H.f_uStore (nm_uStore L) uStoreFn rl hF | u_call H.f_uCas (nm_uCas L) uCasFn rl hF) | (with_reducible refine y_cond ?_; first | refine y_condT rfl ?_ | refine y_condF rfl ?_) | with_reducible refine y_code_skip ?_ | with_reducible refine y_ret ?_ | with_reducible refine y_end ?_ | with_reducible refine y_block ?_ | with_reducible refine y_loop ?_ | with_reducible refine y_inBlock ?_ | with_reducible refine y_inLoop ?_ | (with_reducible refine y_exit0 ?_; refine y_exit rfl ?_) | u_leave1 H.f_uAdd rl hF | u_leave1 H.f_uLoad rl hF | u_leave0 H.f_uStore rl hF | u_leave1 H.f_uCas rl hF)
      u_conv H.underlying_tPU32 H.room_tU32 (WgLive.cell1 hF).choose_spec rl hF
      refine Goes.stop (fun w₃ h₃ => ?_)
      replace hF := rl hF h₃
      clear h₃
      refine ⟨rfl, _, stepG_markAt .write (by simp) rfl rfl (by k_ne) rfl H.f_raceWrite (x_raceWrite_n L) (x_raceWrite_b L) (x_raceWrite_x L) (x_raceWrite_f L) (ad := ⟨Wg, 1, none⟩) (by simp [Act.eval]), 150, ?_⟩
      walk_nrm
      repeat (first | with_reducible refine y_seq ?_ | (with_reducible refine y_region ?_; simp only [List.size_toArray, List.length_cons, List.length_nil, Nat.reduceAdd, Nat.zero_add, List.range, List.range.loop]) | with_reducible refine y_region_end ?_ | (with_reducible refine y_op ?_; first | (refine y_skip rfl rfl ?_; walk_nrm) | (refine y_valueI _ rfl rfl rfl (by k_ne) (fun _ => ⟨by go_simp; (try w_num); exact rfl, by simp [go_sem, *]⟩) ?_; walk_nrm) | (refine y_value (.bool false) rfl rfl rfl (by k_ne) (fun _ => ⟨by go_simp; (first | done | omega | (w_num; omega) | w_num | decide), by simp [go_sem, *]⟩) ?_; walk_nrm) | (refine y_value (.bool true) rfl rfl rfl (by k_ne) (fun _ => ⟨by go_simp; (first | done | omega | (w_num; omega) | w_num | decide), by simp [go_sem, *]⟩) ?_; walk_nrm) | (refine y_value _ rfl rfl rfl (by k_ne) (fun _ => ⟨by go_simp; (try w_num); exact rfl, by simp [go_sem, *]⟩) ?_; walk_nrm) | u_defer rl hF | u_bub rl hF | u_call H.f_uAdd (nm_uAdd L) uAddFn rl hF | u_call H.f_uLoad (nm_uLoad L) uLoadFn rl hF | u_call H.f_uStore (nm_uStore L) uStoreFn rl hF | u_call H.f_uCas (nm_uCas L) uCasFn rl hF) | (with_reducible refine y_cond ?_; first | refine y_condT rfl ?_ | refine y_condF rfl ?_) | with_reducible refine y_code_skip ?_ | with_reducible refine y_ret ?_ | with_reducible refine y_end ?_ | with_reducible refine y_block ?_ | with_reducible refine y_loop ?_ | with_reducible refine y_inBlock ?_ | with_reducible refine y_inLoop ?_ | (with_reducible refine y_exit0 ?_; refine y_exit rfl ?_) | u_leave1 H.f_uAdd rl hF | u_leave1 H.f_uLoad rl hF | u_leave0 H.f_uStore rl hF | u_leave1 H.f_uCas rl hF)
      refine Goes.stop (fun w₃ h₃ => ?_)
      replace hF := rl hF h₃
      clear h₃
      refine ⟨rfl, rfl, fun ⟨st, hw⟩ => stepG_semacquire_wait rfl rfl rfl H.f_semacquire (x_semacquire_n L) (x_semacquire_b L) (x_semacquire_x L) (x_semacquire_f L) (by simp [Act.eval, smA]) hw.cellSm, fun hf => ?_⟩
      refine ⟨_, (stepG_semacquire (n := 1) rfl rfl (by k_ne) rfl H.f_semacquire (x_semacquire_n L) (x_semacquire_b L) (x_semacquire_x L) (x_semacquire_f L) (by simp [Act.eval, smA]) hf.cellSm (by k_ne) (hf.thaw 1)).trans (by rfl), 80, ?_⟩
      replace hF : WgLive L.tWg Wg (w₃.setCell (smA Wg) (.int .u32 0)) := ⟨_, _, hf.setSm 0⟩
      clear hf
      walk_nrm
      repeat (first | with_reducible refine y_seq ?_ | (with_reducible refine y_region ?_; simp only [List.size_toArray, List.length_cons, List.length_nil, Nat.reduceAdd, Nat.zero_add, List.range, List.range.loop]) | with_reducible refine y_region_end ?_ | (with_reducible refine y_op ?_; first | (refine y_skip rfl rfl ?_; walk_nrm) | (refine y_value _ rfl rfl rfl (by k_ne) (fun _ => ⟨by go_simp; (try w_num); exact rfl, by simp [go_sem, *]⟩) ?_; walk_nrm) | u_defer rl hF | u_bub rl hF | u_call H.f_uAdd (nm_uAdd L) uAddFn rl hF | u_call H.f_uLoad (nm_uLoad L) uLoadFn rl hF | u_call H.f_uStore (nm_uStore L) uStoreFn rl hF | u_call H.f_uCas (nm_uCas L) uCasFn rl hF) | (with_reducible refine y_cond ?_; first | refine y_condT rfl ?_ | refine y_condF rfl ?_) | with_reducible refine y_code_skip ?_ | with_reducible refine y_ret ?_ | with_reducible refine y_end ?_ | with_reducible refine y_block ?_ | with_reducible refine y_loop ?_ | with_reducible refine y_inBlock ?_ | with_reducible refine y_inLoop ?_ | (with_reducible refine y_exit0 ?_; refine y_exit rfl ?_) | u_leave1 H.f_uAdd rl hF | u_leave1 H.f_uLoad rl hF | u_leave0 H.f_uStore rl hF | u_leave1 H.f_uCas rl hF)
      refine Goes.stop (fun w₄ h₄ => ?_)
      clear h₄ hF
      refine ⟨rfl, fun hw => ⟨_, stepG_load_atomic (v := 0) rfl rfl (by k_ne) rfl H.f_loadU64 (x_loadU64_n L) (x_loadU64_b L) (x_loadU64_x L) .u64 (x_loadU64_f L) rfl hw.cellSt, 150, ?_⟩⟩
      have hF : WgLive L.tWg Wg w₄ := ⟨_, _, hw⟩
      clear hw
      walk_nrm
      repeat (first | with_reducible refine y_seq ?_ | (with_reducible refine y_region ?_; simp only [List.size_toArray, List.length_cons, List.length_nil, Nat.reduceAdd, Nat.zero_add, List.range, List.range.loop]) | with_reducible refine y_region_end ?_ | (with_reducible refine y_op ?_; first | (refine y_skip rfl rfl ?_; walk_nrm) | (refine y_value _ rfl rfl rfl (by k_ne) (fun _ => ⟨by go_simp; (try w_num); exact rfl, by simp [go_sem, *]⟩) ?_; walk_nrm) | u_defer rl hF | u_bub rl hF | u_call H.f_uAdd (nm_uAdd L) uAddFn rl hF | u_call H.f_uLoad (nm_uLoad L) uLoadFn rl hF | u_call H.f_uStore (nm_uStore L) uStoreFn rl hF | u_call H.f_uCas (nm_uCas L) uCasFn rl hF) | (with_reducible refine y_cond ?_; first | refine y_condT rfl ?_ | refine y_condF rfl ?_) | with_reducible refine y_code_skip ?_ | with_reducible refine y_ret ?_ | with_reducible refine y_end ?_ | with_reducible refine y_block ?_ | with_reducible refine y_loop ?_ | with_reducible refine y_inBlock ?_ | with_reducible refine y_inLoop ?_ | (with_reducible refine y_exit0 ?_; refine y_exit rfl ?_) | u_leave1 H.f_uAdd rl hF | u_leave1 H.f_uLoad rl hF | u_leave0 H.f_uStore rl hF | u_leave1 H.f_uCas rl hF)
      refine Goes.stop (fun w₅ h₅ => ?_)
      replace hF := rl hF h₅
      clear h₅
      refine ⟨rfl, _, stepG_mark0 .enable (by simp) rfl rfl (by k_ne) rfl H.f_enable (x_enable_n L) (x_enable_b L) (x_enable_x L) (x_enable_f L), 20, ?_⟩
      walk_nrm
      repeat (first | with_reducible refine y_seq ?_ | (with_reducible refine y_region ?_; simp only [List.size_toArray, List.length_cons, List.length_nil, Nat.reduceAdd, Nat.zero_add, List.range, List.range.loop]) | with_reducible refine y_region_end ?_ | (with_reducible refine y_op ?_; first | (refine y_skip rfl rfl ?_; walk_nrm) | (refine y_value _ rfl rfl rfl (by k_ne) (fun _ => ⟨by go_simp; (try w_num); exact rfl, by simp [go_sem, *]⟩) ?_; walk_nrm) | u_defer rl hF | u_bub rl hF | u_call H.f_uAdd (nm_uAdd L) uAddFn rl hF | u_call H.f_uLoad (nm_uLoad L) uLoadFn rl hF | u_call H.f_uStore (nm_uStore L) uStoreFn rl hF | u_call H.f_uCas (nm_uCas L) uCasFn rl hF) | (with_reducible refine y_cond ?_; first | refine y_condT rfl ?_ | refine y_condF rfl ?_) | with_reducible refine y_code_skip ?_ | with_reducible refine y_ret ?_ | with_reducible refine y_end ?_ | with_reducible refine y_block ?_ | with_reducible refine y_loop ?_ | with_reducible refine y_inBlock ?_ | with_reducible refine y_inLoop ?_ | (with_reducible refine y_exit0 ?_; refine y_exit rfl ?_) | u_leave1 H.f_uAdd rl hF | u_leave1 H.f_uLoad rl hF | u_leave0 H.f_uStore rl hF | u_leave1 H.f_uCas rl hF)
      u_conv H.underlying_tWgP H.room_tWg (WgLive.cell0 hF).choose_spec rl hF
      refine Goes.stop (fun w₆ h₆ => ?_)
      replace hF := rl hF h₆
      clear h₆
      refine ⟨rfl, _, stepG_markAt .acquire (by simp) rfl rfl (by k_ne) rfl H.f_acquire (x_acquire_n L) (x_acquire_b L) (x_acquire_x L) (x_acquire_f L) (by simp [Act.eval, stA]), 60, ?_⟩
      walk_nrm
      repeat (first | with_reducible refine y_seq ?_ | (with_reducible refine y_region ?_; simp only [List.size_toArray, List.length_cons, List.length_nil, Nat.reduceAdd, Nat.zero_add, List.range, List.range.loop]) | with_reducible refine y_region_end ?_ | (with_reducible refine y_op ?_; first | (refine y_skip rfl rfl ?_; walk_nrm) | (refine y_value _ rfl rfl rfl (by k_ne) (fun _ => ⟨by go_simp; (try w_num); exact rfl, by simp [go_sem, *]⟩) ?_; walk_nrm) | u_defer rl hF | u_bub rl hF | u_call H.f_uAdd (nm_uAdd L) uAddFn rl hF | u_call H.f_uLoad (nm_uLoad L) uLoadFn rl hF | u_call H.f_uStore (nm_uStore L) uStoreFn rl hF | u_call H.f_uCas (nm_uCas L) uCasFn rl hF) | (with_reducible refine y_cond ?_; first | refine y_condT rfl ?_ | refine y_condF rfl ?_) | with_reducible refine y_code_skip ?_ | with_reducible refine y_ret ?_ | with_reducible refine y_end ?_ | with_reducible refine y_block ?_ | with_reducible refine y_loop ?_ | with_reducible refine y_inBlock ?_ | with_reducible refine y_inLoop ?_ | (with_reducible refine y_exit0 ?_; refine y_exit rfl ?_) | u_leave1 H.f_uAdd rl hF | u_leave1 H.f_uLoad rl hF | u_leave0 H.f_uStore rl hF | u_leave1 H.f_uCas rl hF)
      u_leave0 H.f_wait rl hF
      exact Goes.stop fun _ _ => rfl
    · have hne : ¬ ((v' : Int) * KK = S) := fun h => e ((hSv v').1 h)
      refine ⟨_, stepG_cas_miss (v := (v' : Int) * KK) (old := S) (n := S + 1) rfl rfl (by k_ne) rfl H.f_casU64 (x_casU64_n L) (x_casU64_b L) (x_casU64_x L) .u64 (x_casU64_f L) rfl rfl (by simp [Act.eval]; try omega) hw.cellSt (hw.thaw 0) hne, 150, ?_⟩
      clear hw hne
      walk_nrm
      repeat (first | with_reducible refine y_seq ?_ | (with_reducible refine y_region ?_; simp only [List.size_toArray, List.length_cons, List.length_nil, Nat.reduceAdd, Nat.zero_add, List.range, List.range.loop]) | with_reducible refine y_region_end ?_ | (with_reducible refine y_op ?_; first | (refine y_skip rfl rfl ?_; walk_nrm) | (refine y_value _ rfl rfl rfl (by k_ne) (fun _ => ⟨by go_simp; (try w_num); exact rfl, by simp [go_sem, *]⟩) ?_; walk_nrm) | u_defer rl hF | u_bub rl hF | u_call H.f_uAdd (nm_uAdd L) uAddFn rl hF | u_call H.f_uLoad (nm_uLoad L) uLoadFn rl hF | u_call H.f_uStore (nm_uStore L) uStoreFn rl hF | u_call H.f_uCas (nm_uCas L) uCasFn rl hF) | (with_reducible refine y_cond ?_; first | refine y_condT rfl ?_ | refine y_condF rfl ?_) | with_reducible refine y_code_skip ?_ | with_reducible refine y_ret ?_ | with_reducible refine y_end ?_ | with_reducible refine y_loop ?_ | with_reducible refine y_inBlock ?_ | with_reducible refine y_inLoop ?_ | (with_reducible refine y_exit0 ?_; refine y_exit rfl ?_) | u_leave1 H.f_uAdd rl hF | u_leave1 H.f_uLoad rl hF | u_leave0 H.f_uStore rl hF | u_leave1 H.f_uCas rl hF)
      refine Goes.stop (fun w₃ h₃ => ?_)
      exact ⟨_, rfl, by simp, by simp⟩
set_option maxRecDepth 100000 in
theorem waitStartY {P : Program} (H : WgLib P L) {Wg : Nat} {c : Frame} {cs : List Frame} (w : World) (hF : WgLive L.tWg Wg w) :
    Goes P true (Rl L.tWg Wg) DC0 (At1 P true L.tWg Wg (mk .disable) (AnchY L Wg c cs)) 10
      (G ((base L.wait).at ⟨#[.pointer (some ⟨Wg, 0, none⟩), undef, undef, undef, undef, undef, undef, undef, undef, undef, undef, undef, undef, undef, undef, undef, undef, undef, undef, undef, undef, undef, undef, undef, undef, undef, undef, undef, undef, undef, undef, undef, undef, undef, undef, undef, undef, undef, undef, undef, undef, undef, undef, undef, undef, undef, undef, undef, undef, undef, undef, undef, undef, undef, undef, undef, undef, undef, undef, undef, undef, undef, undef, undef, undef, undef, undef, undef, undef, undef, undef, undef, undef, undef, undef, undef, undef, undef, undef, undef, undef, undef, undef, undef], []⟩ [.code (body_wait L)]) (c :: cs)) w := by
  lib_facts
  simp only [body_wait, waitFn, Option.getD_some]
  repeat (first | with_reducible refine y_seq ?_ | (with_reducible refine y_region ?_; simp only [List.size_toArray, List.length_cons, List.length_nil, Nat.reduceAdd, Nat.zero_add, List.range, List.range.loop]) | with_reducible refine y_region_end ?_ | (with_reducible refine y_op ?_; first | (refine y_skip rfl rfl ?_; walk_nrm) | (refine y_value _ rfl rfl rfl (by k_ne) (fun _ => ⟨by go_simp; (try w_num); exact rfl, by simp [go_sem, *]⟩) ?_; walk_nrm) | u_defer rl hF | u_bub rl hF | u_call H.f_uAdd (nm_uAdd L) uAddFn rl hF | u_call H.f_uLoad (nm_uLoad L) uLoadFn rl hF | u_call H.f_uStore (nm_uStore L) uStoreFn rl hF | u_call H.f_uCas (nm_uCas L) uCasFn rl hF) | (with_reducible refine y_cond ?_; first | refine y_condT rfl ?_ | refine y_condF rfl ?_) | with_reducible refine y_code_skip ?_ | with_reducible refine y_ret ?_ | with_reducible refine y_end ?_ | with_reducible refine y_block ?_ | with_reducible refine y_loop ?_ | with_reducible refine y_inBlock ?_ | with_reducible refine y_inLoop ?_ | (with_reducible refine y_exit0 ?_; refine y_exit rfl ?_) | u_leave1 H.f_uAdd rl hF | u_leave1 H.f_uLoad rl hF | u_leave0 H.f_uStore rl hF | u_leave1 H.f_uCas rl hF)
  refine Goes.stop (fun w₁ h₁ => ?_)
  replace hF := rl hF h₁
  clear h₁
  refine ⟨rfl, _, stepG_mark0 .disable (by simp) rfl rfl (by k_ne) rfl H.f_disable (x_disable_n L) (x_disable_b L) (x_disable_x L) (x_disable_f L), 20, ?_⟩
  walk_nrm
  with_reducible refine y_region_end ?_
  with_reducible refine y_block ?_
  with_reducible refine y_loop ?_
  exact Goes.stop (fun w₂ h₂ => ⟨_, rfl, by simp, by simp⟩)
end Go.Proofs.Ytkfmphlnpmemdaa.Sx
