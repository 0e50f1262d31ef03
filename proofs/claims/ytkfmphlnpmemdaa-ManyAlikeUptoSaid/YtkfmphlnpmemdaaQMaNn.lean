import Derived.Test.YtkfmphlnpmemdaaQMaN
set_option linter.unusedVariables false
set_option linter.unusedSimpArgs false
namespace Go.Proofs.Ytkfmphlnpmemdaa.Sx
open Go Go.Conc Go.ConcN Go.RowKit Go.Conc.Lib Go.ConcR.Gen Go.ConcN.Gen
open Go.ConcR (KK wgBlock WgAt stA smA rd wr mk Payload Aside2 DC0)
variable {L : WgLink}
set_option maxRecDepth 100000 in
set_option maxHeartbeats 8000000 in
theorem addNegY {P : Program} (H : WgLib P L) {Wg : Nat} {b₀ : Frame} {a₀ : Act} {ops₀ : Array Oper} {i₀ : Nat} {rest₀ : List Nat} {k₀ : List Item} {cs : List Frame} {qt : Nat}
    (hT : QuitsD P qt 0 (G (b₀.at (a₀.put ((ops₀[i₀]?).bind (·.dst)) (.tuple #[])) (.inRegion ops₀ rest₀ :: k₀)) cs)) (w : World) (hK : WgLive L.tWg Wg w) :
    Goes P false (Rl L.tWg Wg) DC0 (At1 P false L.tWg Wg (mk (.releaseMerge (stA Wg))) (At1 P false L.tWg Wg (mk .disable) (Wd1 P L.tWg Wg))) 40
      (G ((base L.add).at ⟨#[.pointer (some ⟨Wg, 0, none⟩), .int .i64 (-1), undef, undef, undef, undef, undef, undef, undef, undef, undef, undef, undef, undef, undef, undef, undef, undef, undef, undef, undef, undef, undef, undef, undef, undef, undef, undef, undef, undef, undef, undef, undef, undef, undef, undef, undef, undef, undef, undef, undef, undef, undef, undef, undef, undef, undef, undef, undef, undef, undef, undef, undef, undef, undef, undef, undef, undef, undef, undef, undef, undef, undef, undef, undef, undef, undef, undef, undef, undef, undef, undef, undef, undef, undef, undef, undef, undef, undef, undef, undef, undef, undef, undef, undef, undef, undef, undef, undef, undef, undef, undef, undef, undef, undef, undef, undef, undef, undef, undef, undef, undef, undef, undef, undef, undef, undef, undef, undef, undef, undef, undef, undef, undef, undef, undef, undef], []⟩ [.code (body_add L)]) (b₀.at a₀ (.inRegion ops₀ (i₀ :: rest₀) :: k₀) :: cs)) w := by
  lib_facts
  simp only [body_add, addFn, Option.getD_some]
  repeat (first | with_reducible refine y_seq ?_ | (with_reducible refine y_region ?_; simp only [List.size_toArray, List.length_cons, List.length_nil, Nat.reduceAdd, Nat.zero_add, List.range, List.range.loop]) | with_reducible refine y_region_end ?_ | (with_reducible refine y_op ?_; first | (refine y_skip rfl rfl ?_; walk_nrm) | (refine y_value _ rfl rfl rfl (by k_ne) (fun _ => ⟨by go_simp; (try w_num); exact rfl, by simp [go_sem, *]⟩) ?_; walk_nrm) | u_defer rl hK | u_bub rl hK | u_call H.f_uAdd (nm_uAdd L) uAddFn rl hK | u_call H.f_uLoad (nm_uLoad L) uLoadFn rl hK | u_call H.f_uStore (nm_uStore L) uStoreFn rl hK | u_call H.f_uCas (nm_uCas L) uCasFn rl hK) | (with_reducible refine y_cond ?_; first | refine y_condT rfl ?_ | refine y_condF rfl ?_) | with_reducible refine y_code_skip ?_ | with_reducible refine y_ret ?_ | with_reducible refine y_end ?_ | with_reducible refine y_block ?_ | with_reducible refine y_loop ?_ | with_reducible refine y_inBlock ?_ | with_reducible refine y_inLoop ?_ | (with_reducible refine y_exit0 ?_; refine y_exit rfl ?_) | u_leave1 H.f_uAdd rl hK | u_leave1 H.f_uLoad rl hK | u_leave0 H.f_uStore rl hK | u_leave1 H.f_uCas rl hK)
  u_conv H.underlying_tWgP H.room_tWg (WgLive.cell0 hK).choose_spec rl hK
  refine Goes.stop (fun w₁ h₁ => ?_)
  replace hK := rl hK h₁
  clear h₁
  refine ⟨rfl, _, stepG_markAt .releaseMerge (by simp) rfl rfl (by k_ne) rfl H.f_relMerge (x_relMerge_n L) (x_relMerge_b L) (x_relMerge_x L) (x_relMerge_f L) (by simp [Act.eval, stA]), 60, ?_⟩
  walk_nrm
  repeat (first | with_reducible refine y_seq ?_ | (with_reducible refine y_region ?_; simp only [List.size_toArray, List.length_cons, List.length_nil, Nat.reduceAdd, Nat.zero_add, List.range, List.range.loop]) | with_reducible refine y_region_end ?_ | (with_reducible refine y_op ?_; first | (refine y_skip rfl rfl ?_; walk_nrm) | (refine y_value _ rfl rfl rfl (by k_ne) (fun _ => ⟨by go_simp; (try w_num); exact rfl, by simp [go_sem, *]⟩) ?_; walk_nrm) | u_defer rl hK | u_bub rl hK | u_call H.f_uAdd (nm_uAdd L) uAddFn rl hK | u_call H.f_uLoad (nm_uLoad L) uLoadFn rl hK | u_call H.f_uStore (nm_uStore L) uStoreFn rl hK | u_call H.f_uCas (nm_uCas L) uCasFn rl hK) | (with_reducible refine y_cond ?_; first | refine y_condT rfl ?_ | refine y_condF rfl ?_) | with_reducible refine y_code_skip ?_ | with_reducible refine y_ret ?_ | with_reducible refine y_end ?_ | with_reducible refine y_block ?_ | with_reducible refine y_loop ?_ | with_reducible refine y_inBlock ?_ | with_reducible refine y_inLoop ?_ | (with_reducible refine y_exit0 ?_; refine y_exit rfl ?_) | u_leave1 H.f_uAdd rl hK | u_leave1 H.f_uLoad rl hK | u_leave0 H.f_uStore rl hK | u_leave1 H.f_uCas rl hK)
  refine Goes.stop (fun w₁ h₁ => ?_)
  replace hK := rl hK h₁
  clear h₁
  refine ⟨rfl, _, stepG_mark0 .disable (by simp) rfl rfl (by k_ne) rfl H.f_disable (x_disable_n L) (x_disable_b L) (x_disable_x L) (x_disable_f L), 100, ?_⟩
  walk_nrm
  repeat (first | with_reducible refine y_seq ?_ | (with_reducible refine y_region ?_; simp only [List.size_toArray, List.length_cons, List.length_nil, Nat.reduceAdd, Nat.zero_add, List.range, List.range.loop]) | with_reducible refine y_region_end ?_ | (with_reducible refine y_op ?_; first | (refine y_skip rfl rfl ?_; walk_nrm) | (refine y_value _ rfl rfl rfl (by k_ne) (fun _ => ⟨by go_simp; (try w_num); exact rfl, by simp [go_sem, *]⟩) ?_; walk_nrm) | u_defer rl hK | u_bub rl hK | u_call H.f_uAdd (nm_uAdd L) uAddFn rl hK | u_call H.f_uLoad (nm_uLoad L) uLoadFn rl hK | u_call H.f_uStore (nm_uStore L) uStoreFn rl hK | u_call H.f_uCas (nm_uCas L) uCasFn rl hK) | (with_reducible refine y_cond ?_; first | refine y_condT rfl ?_ | refine y_condF rfl ?_) | with_reducible refine y_code_skip ?_ | with_reducible refine y_ret ?_ | with_reducible refine y_end ?_ | with_reducible refine y_block ?_ | with_reducible refine y_loop ?_ | with_reducible refine y_inBlock ?_ | with_reducible refine y_inLoop ?_ | (with_reducible refine y_exit0 ?_; refine y_exit rfl ?_) | u_leave1 H.f_uAdd rl hK | u_leave1 H.f_uLoad rl hK | u_leave0 H.f_uStore rl hK | u_leave1 H.f_uCas rl hK)
  refine Goes.stop (fun w₁ h₁ => ?_)
  clear h₁ hK
  refine ⟨rfl, fun v wt hwt hv hw => ?_⟩
  have e0 : IntKind.u64.wrap (KK + 18446744069414584320) = 0 := by decide
  have e1 : IntKind.u64.wrap (KK + 1 + 18446744069414584320) = 1 := by decide
  rcases Nat.eq_zero_or_pos v with rfl | hvp <;> (obtain rfl | rfl : wt = 0 ∨ wt = 1 := by omega)
  · replace hw : WgAt L.tWg Wg w₁ KK 0 := by simpa using hw
    have z : ((0 : Nat) : Int) * KK + ((0 : Nat) : Int) = 0 := by simp
    rw [z]
    refine ⟨_, (stepG_add_atomic rfl rfl (by k_ne) rfl H.f_addU64 (x_addU64_n L) (x_addU64_b L) (x_addU64_x L) .u64 (x_addU64_f L) rfl rfl hw.cellSt (hw.thaw 0)).trans (by rw [e0]; rfl), fun hl => absurd hl.2 (by decide), fun _ => ⟨qt + 150, ?_⟩⟩
    clear hw
    walk_nrm
    repeat (first | with_reducible refine z_seq ?_ | (with_reducible refine z_region ?_; simp only [List.size_toArray, List.length_cons, List.length_nil, Nat.reduceAdd, Nat.zero_add, List.range, List.range.loop]) | with_reducible refine z_region_end ?_ | (with_reducible refine z_op ?_; first | (refine z_skip rfl rfl ?_; walk_nrm) | (refine z_valueI _ rfl rfl rfl (by k_ne) (fun _ => ⟨by go_simp; (try w_num); exact rfl, by simp [go_sem, *]⟩) ?_; walk_nrm) | (refine z_value (.bool false) rfl rfl rfl (by k_ne) (fun _ => ⟨by go_simp; (first | done | omega | (w_num; omega) | w_num | decide), by simp [go_sem, *]⟩) ?_; walk_nrm) | (refine z_value (.bool true) rfl rfl rfl (by k_ne) (fun _ => ⟨by go_simp; (first | done | omega | (w_num; omega) | w_num | decide), by simp [go_sem, *]⟩) ?_; walk_nrm) | (refine z_value _ rfl rfl rfl (by k_ne) (fun _ => ⟨by go_simp; (try w_num); exact rfl, by simp [go_sem, *]⟩) ?_; walk_nrm)) | (with_reducible refine z_cond ?_; first | refine z_condT rfl ?_ | refine z_condF rfl ?_) | with_reducible refine z_code_skip ?_ | with_reducible refine z_ret ?_ | with_reducible refine z_end ?_ | with_reducible refine z_block ?_ | with_reducible refine z_loop ?_ | with_reducible refine z_inBlock ?_ | with_reducible refine z_inLoop ?_ | (with_reducible refine z_exit0 ?_; q_exit) | q_leave1 H.f_uAdd | q_leave0 H.f_add | q_enable)
    exact QuitsD.ge (n := qt) hT (by omega)
  · replace hw : WgAt L.tWg Wg w₁ (KK + 1) 0 := by simpa using hw
    have z : ((0 : Nat) : Int) * KK + ((1 : Nat) : Int) = 1 := by simp
    rw [z]
    refine ⟨_, (stepG_add_atomic rfl rfl (by k_ne) rfl H.f_addU64 (x_addU64_n L) (x_addU64_b L) (x_addU64_x L) .u64 (x_addU64_f L) rfl rfl hw.cellSt (hw.thaw 0)).trans (by rw [e1]; rfl), fun _ => ⟨200, ?_⟩, fun hl => absurd ⟨rfl, rfl⟩ hl⟩
    have hF : WgLive L.tWg Wg (w₁.setCell (stA Wg) (.int .u64 1)) := ⟨_, _, hw.setSt 1⟩
    clear hw
    walk_nrm
    repeat (first | with_reducible refine y_seq ?_ | (with_reducible refine y_region ?_; simp only [List.size_toArray, List.length_cons, List.length_nil, Nat.reduceAdd, Nat.zero_add, List.range, List.range.loop]) | with_reducible refine y_region_end ?_ | (with_reducible refine y_op ?_; first | (refine y_skip rfl rfl ?_; walk_nrm) | (refine y_value _ rfl rfl rfl (by k_ne) (fun _ => ⟨by go_simp; (try w_num); exact rfl, by simp [go_sem, *]⟩) ?_; walk_nrm) | u_defer rl hF | u_bub rl hF | u_call H.f_uAdd (nm_uAdd L) uAddFn rl hF | u_call H.f_uLoad (nm_uLoad L) uLoadFn rl hF | u_call H.f_uStore (nm_uStore L) uStoreFn rl hF | u_call H.f_uCas (nm_uCas L) uCasFn rl hF) | (with_reducible refine y_cond ?_; first | refine y_condT rfl ?_ | refine y_condF rfl ?_) | with_reducible refine y_code_skip ?_ | with_reducible refine y_ret ?_ | with_reducible refine y_end ?_ | with_reducible refine y_block ?_ | with_reducible refine y_loop ?_ | with_reducible refine y_inBlock ?_ | with_reducible refine y_inLoop ?_ | (with_reducible refine y_exit0 ?_; refine y_exit rfl ?_) | u_leave1 H.f_uAdd rl hF | u_leave1 H.f_uLoad rl hF | u_leave0 H.f_uStore rl hF | u_leave1 H.f_uCas rl hF)
    refine Goes.stop (fun w₂ h₂ => ?_)
    clear h₂ hF
    refine ⟨rfl, fun hw => ⟨_, stepG_load_atomic rfl rfl (by k_ne) rfl H.f_loadU64 (x_loadU64_n L) (x_loadU64_b L) (x_loadU64_x L) .u64 (x_loadU64_f L) rfl hw.cellSt, 200, ?_⟩⟩
    have hF : WgLive L.tWg Wg w₂ := ⟨_, _, hw⟩
    clear hw
    walk_nrm
    repeat (first | with_reducible refine y_seq ?_ | (with_reducible refine y_region ?_; simp only [List.size_toArray, List.length_cons, List.length_nil, Nat.reduceAdd, Nat.zero_add, List.range, List.range.loop]) | with_reducible refine y_region_end ?_ | (with_reducible refine y_op ?_; first | (refine y_skip rfl rfl ?_; walk_nrm) | (refine y_value _ rfl rfl rfl (by k_ne) (fun _ => ⟨by go_simp; (try w_num); exact rfl, by simp [go_sem, *]⟩) ?_; walk_nrm) | u_defer rl hF | u_bub rl hF | u_call H.f_uAdd (nm_uAdd L) uAddFn rl hF | u_call H.f_uLoad (nm_uLoad L) uLoadFn rl hF | u_call H.f_uStore (nm_uStore L) uStoreFn rl hF | u_call H.f_uCas (nm_uCas L) uCasFn rl hF) | (with_reducible refine y_cond ?_; first | refine y_condT rfl ?_ | refine y_condF rfl ?_) | with_reducible refine y_code_skip ?_ | with_reducible refine y_ret ?_ | with_reducible refine y_end ?_ | with_reducible refine y_block ?_ | with_reducible refine y_loop ?_ | with_reducible refine y_inBlock ?_ | with_reducible refine y_inLoop ?_ | (with_reducible refine y_exit0 ?_; refine y_exit rfl ?_) | u_leave1 H.f_uAdd rl hF | u_leave1 H.f_uLoad rl hF | u_leave0 H.f_uStore rl hF | u_leave1 H.f_uCas rl hF)
    refine Goes.stop (fun w₃ h₃ => ?_)
    clear h₃ hF
    refine ⟨rfl, fun hw => ⟨_, stepG_store_atomic rfl rfl (by k_ne) rfl H.f_storeU64 (x_storeU64_n L) (x_storeU64_b L) (x_storeU64_x L) (x_storeU64_f L) rfl rfl hw.cellSt (hw.thaw 0), 100, ?_⟩⟩
    have hF : WgLive L.tWg Wg (w₃.setCell (stA Wg) (.int .u64 0)) := ⟨_, _, hw.setSt 0⟩
    clear hw
    walk_nrm
    repeat (first | with_reducible refine y_seq ?_ | (with_reducible refine y_region ?_; simp only [List.size_toArray, List.length_cons, List.length_nil, Nat.reduceAdd, Nat.zero_add, List.range, List.range.loop]) | with_reducible refine y_region_end ?_ | (with_reducible refine y_op ?_; first | (refine y_skip rfl rfl ?_; walk_nrm) | (refine y_value _ rfl rfl rfl (by k_ne) (fun _ => ⟨by go_simp; (try w_num); exact rfl, by simp [go_sem, *]⟩) ?_; walk_nrm) | u_defer rl hF | u_bub rl hF | u_call H.f_uAdd (nm_uAdd L) uAddFn rl hF | u_call H.f_uLoad (nm_uLoad L) uLoadFn rl hF | u_call H.f_uStore (nm_uStore L) uStoreFn rl hF | u_call H.f_uCas (nm_uCas L) uCasFn rl hF) | (with_reducible refine y_cond ?_; first | refine y_condT rfl ?_ | refine y_condF rfl ?_) | with_reducible refine y_code_skip ?_ | with_reducible refine y_ret ?_ | with_reducible refine y_end ?_ | with_reducible refine y_block ?_ | with_reducible refine y_loop ?_ | with_reducible refine y_inBlock ?_ | with_reducible refine y_inLoop ?_ | (with_reducible refine y_exit0 ?_; refine y_exit rfl ?_) | u_leave1 H.f_uAdd rl hF | u_leave1 H.f_uLoad rl hF | u_leave0 H.f_uStore rl hF | u_leave1 H.f_uCas rl hF)
    refine Goes.stop (fun w₄ h₄ => ?_)
    clear h₄ hF
    refine ⟨rfl, mayWake_entry rfl rfl H.f_semrelease (x_semrelease_b L), fun hw => ⟨_, (stepG_semrelease rfl rfl (by k_ne) rfl H.f_semrelease (x_semrelease_n L) (x_semrelease_b L) (x_semrelease_x L) (x_semrelease_f L) (by simp [Act.eval, smA]) hw.cellSm (hw.thaw 1)).trans (by rfl), qt + 150, ?_⟩⟩
    clear hw
    walk_nrm
    repeat (first | with_reducible refine z_seq ?_ | (with_reducible refine z_region ?_; simp only [List.size_toArray, List.length_cons, List.length_nil, Nat.reduceAdd, Nat.zero_add, List.range, List.range.loop]) | with_reducible refine z_region_end ?_ | (with_reducible refine z_op ?_; first | (refine z_skip rfl rfl ?_; walk_nrm) | (refine z_valueI _ rfl rfl rfl (by k_ne) (fun _ => ⟨by go_simp; (try w_num); exact rfl, by simp [go_sem, *]⟩) ?_; walk_nrm) | (refine z_value (.bool false) rfl rfl rfl (by k_ne) (fun _ => ⟨by go_simp; (first | done | omega | (w_num; omega) | w_num | decide), by simp [go_sem, *]⟩) ?_; walk_nrm) | (refine z_value (.bool true) rfl rfl rfl (by k_ne) (fun _ => ⟨by go_simp; (first | done | omega | (w_num; omega) | w_num | decide), by simp [go_sem, *]⟩) ?_; walk_nrm) | (refine z_value _ rfl rfl rfl (by k_ne) (fun _ => ⟨by go_simp; (try w_num); exact rfl, by simp [go_sem, *]⟩) ?_; walk_nrm)) | (with_reducible refine z_cond ?_; first | refine z_condT rfl ?_ | refine z_condF rfl ?_) | with_reducible refine z_code_skip ?_ | with_reducible refine z_ret ?_ | with_reducible refine z_end ?_ | with_reducible refine z_block ?_ | with_reducible refine z_loop ?_ | with_reducible refine z_inBlock ?_ | with_reducible refine z_inLoop ?_ | (with_reducible refine z_exit0 ?_; q_exit) | q_leave1 H.f_uAdd | q_leave0 H.f_add | q_enable)
    exact QuitsD.ge (n := qt) hT (by omega)
  · have eS : IntKind.u64.wrap (((v : Int) + 1) * KK + ((0 : Nat) : Int) + 18446744069414584320) = (v : Int) * KK + ((0 : Nat) : Int) := by rw [IntKind.wrap_u64]; simp only [KK]; omega
    refine ⟨_, (stepG_add_atomic rfl rfl (by k_ne) rfl H.f_addU64 (x_addU64_n L) (x_addU64_b L) (x_addU64_x L) .u64 (x_addU64_f L) rfl rfl hw.cellSt (hw.thaw 0)).trans (by rw [eS]; rfl), fun hl => absurd hl.1 (by omega), fun _ => ⟨qt + 150, ?_⟩⟩
    obtain ⟨S, hS⟩ : ∃ S : Int, S = (v : Int) * KK + ((0 : Nat) : Int) := ⟨_, rfl⟩
    rw [← hS]
    have a1 : S / 4294967296 = (v : Int) := by rw [hS]; simp only [KK]; omega
    have a2 : 0 ≤ S ∧ S < 9223372036854775808 := by rw [hS]; simp only [KK]; omega
    have b1 : bits .and .u64 S 2147483648 = 0 := by rw [hS]; have := st_flag v 0 (by omega) (by omega); simpa [KK] using this
    have b2 : bits .and .u64 S 2147483647 = 0 := by rw [hS]; have := st_waiters v 0 (by omega) (by omega); simpa [KK] using this
    clear hS hw
    walk_nrm
    repeat (first | with_reducible refine z_seq ?_ | (with_reducible refine z_region ?_; simp only [List.size_toArray, List.length_cons, List.length_nil, Nat.reduceAdd, Nat.zero_add, List.range, List.range.loop]) | with_reducible refine z_region_end ?_ | (with_reducible refine z_op ?_; first | (refine z_skip rfl rfl ?_; walk_nrm) | (refine z_valueI _ rfl rfl rfl (by k_ne) (fun _ => ⟨by go_simp; (try w_num); exact rfl, by simp [go_sem, *]⟩) ?_; walk_nrm) | (refine z_value (.bool false) rfl rfl rfl (by k_ne) (fun _ => ⟨by go_simp; (first | done | omega | (w_num; omega) | w_num | decide), by simp [go_sem, *]⟩) ?_; walk_nrm) | (refine z_value (.bool true) rfl rfl rfl (by k_ne) (fun _ => ⟨by go_simp; (first | done | omega | (w_num; omega) | w_num | decide), by simp [go_sem, *]⟩) ?_; walk_nrm) | (refine z_value _ rfl rfl rfl (by k_ne) (fun _ => ⟨by go_simp; (try w_num); exact rfl, by simp [go_sem, *]⟩) ?_; walk_nrm)) | (with_reducible refine z_cond ?_; first | refine z_condT rfl ?_ | refine z_condF rfl ?_) | with_reducible refine z_code_skip ?_ | with_reducible refine z_ret ?_ | with_reducible refine z_end ?_ | with_reducible refine z_block ?_ | with_reducible refine z_loop ?_ | with_reducible refine z_inBlock ?_ | with_reducible refine z_inLoop ?_ | (with_reducible refine z_exit0 ?_; q_exit) | q_leave1 H.f_uAdd | q_leave0 H.f_add | q_enable)
    exact QuitsD.ge (n := qt) hT (by omega)
  · have eS : IntKind.u64.wrap (((v : Int) + 1) * KK + ((1 : Nat) : Int) + 18446744069414584320) = (v : Int) * KK + ((1 : Nat) : Int) := by rw [IntKind.wrap_u64]; simp only [KK]; omega
    refine ⟨_, (stepG_add_atomic rfl rfl (by k_ne) rfl H.f_addU64 (x_addU64_n L) (x_addU64_b L) (x_addU64_x L) .u64 (x_addU64_f L) rfl rfl hw.cellSt (hw.thaw 0)).trans (by rw [eS]; rfl), fun hl => absurd hl.1 (by omega), fun _ => ⟨qt + 150, ?_⟩⟩
    obtain ⟨S, hS⟩ : ∃ S : Int, S = (v : Int) * KK + ((1 : Nat) : Int) := ⟨_, rfl⟩
    rw [← hS]
    have a1 : S / 4294967296 = (v : Int) := by rw [hS]; simp only [KK]; omega
    have a2 : 0 ≤ S ∧ S < 9223372036854775808 := by rw [hS]; simp only [KK]; omega
    have b1 : bits .and .u64 S 2147483648 = 0 := by rw [hS]; have := st_flag v 1 (by omega) (by omega); simpa [KK] using this
    have b2 : bits .and .u64 S 2147483647 = 1 := by rw [hS]; have := st_waiters v 1 (by omega) (by omega); simpa [KK] using this
    clear hS hw
    walk_nrm
    repeat (first | with_reducible refine z_seq ?_ | (with_reducible refine z_region ?_; simp only [List.size_toArray, List.length_cons, List.length_nil, Nat.reduceAdd, Nat.zero_add, List.range, List.range.loop]) | with_reducible refine z_region_end ?_ | (with_reducible refine z_op ?_; first | (refine z_skip rfl rfl ?_; walk_nrm) | (refine z_valueI _ rfl rfl rfl (by k_ne) (fun _ => ⟨by go_simp; (try w_num); exact rfl, by simp [go_sem, *]⟩) ?_; walk_nrm) | (refine z_value (.bool false) rfl rfl rfl (by k_ne) (fun _ => ⟨by go_simp; (first | done | omega | (w_num; omega) | w_num | decide), by simp [go_sem, *]⟩) ?_; walk_nrm) | (refine z_value (.bool true) rfl rfl rfl (by k_ne) (fun _ => ⟨by go_simp; (first | done | omega | (w_num; omega) | w_num | decide), by simp [go_sem, *]⟩) ?_; walk_nrm) | (refine z_value _ rfl rfl rfl (by k_ne) (fun _ => ⟨by go_simp; (try w_num); exact rfl, by simp [go_sem, *]⟩) ?_; walk_nrm)) | (with_reducible refine z_cond ?_; first | refine z_condT rfl ?_ | refine z_condF rfl ?_) | with_reducible refine z_code_skip ?_ | with_reducible refine z_ret ?_ | with_reducible refine z_end ?_ | with_reducible refine z_block ?_ | with_reducible refine z_loop ?_ | with_reducible refine z_inBlock ?_ | with_reducible refine z_inLoop ?_ | (with_reducible refine z_exit0 ?_; q_exit) | q_leave1 H.f_uAdd | q_leave0 H.f_add | q_enable)
    exact QuitsD.ge (n := qt) hT (by omega)
theorem y_call {P : Program} {main : Bool} {ty : TypeId} {Wg n : Nat} {Stop : Goroutine → World → Prop} {b : Frame} {a : Act} {k : List Item} {cs : List Frame} {w : World} {ops : Array Oper} {i : Nat} {rest : List Nat} {o : Oper} {f : FuncId} {fn : Func} {c : Code} {args : Array Operand} {ats : Array TypeId}
    (ho : ops[i]? = some o) (hw : Region.wanted o (yielded ops a.tmps) = true) (hk : b.kind ≠ .early) (hop : o.op = .call { callee := .value (.func f), args, argTypes := ats }) (hf : P.funcs[f]? = some fn) (hname : (fn.name == "runtime.NumGoroutine") = false) (hb : fn.body = some c)
    (h : Goes P main (Rl ty Wg) DC0 Stop n (G ((base f).at { tmps := args.map a.eval ++ Array.replicate (fn.ntmps - (args.map a.eval).size) undef, defers := [] } [.code c]) (b.at a (.inRegion ops (i :: rest) :: k) :: cs)) w) :
    Goes P main (Rl ty Wg) DC0 Stop (n + 1) (G (b.at a (.inRegion ops (i :: rest) :: k)) cs) w := y_move rfl (fun w₁ => by
  have hb' : fn.body.isNone = false := by rw [hb]; rfl
  rw [stepG_enter ho hw hk (run_call_body hop hf hname hb'), enter_at _ hf hb]
  congr 1
  simpa using listed_nil (events_call_body hop hf hname hb' #[])) h
set_option maxRecDepth 100000 in
set_option maxHeartbeats 8000000 in
theorem doneY {P : Program} (H : WgLib P L) {Wg : Nat} {b₁ : Frame} {a₁ : Act} {ops₁ : Array Oper} {i₁ : Nat} {rest₁ : List Nat} {k₁ : List Item} {cs : List Frame} {qt : Nat}
    (hT : QuitsD P qt 0 (G (b₁.at (a₁.put ((ops₁[i₁]?).bind (·.dst)) (.tuple #[])) (.inRegion ops₁ rest₁ :: k₁)) cs)) (w : World) (hK : WgLive L.tWg Wg w) :
    Goes P false (Rl L.tWg Wg) DC0 (At1 P false L.tWg Wg (mk (.releaseMerge (stA Wg))) (At1 P false L.tWg Wg (mk .disable) (Wd1 P L.tWg Wg))) 60
      (G ((base L.done).at ⟨#[.pointer (some ⟨Wg, 0, none⟩), undef, undef, undef], []⟩ [.code (body_done L)]) (b₁.at a₁ (.inRegion ops₁ (i₁ :: rest₁) :: k₁) :: cs)) w := by
  lib_facts
  have hA := @addNegY L P H Wg
  simp only [body_done, body_add, doneFn, addFn, Option.getD_some] at hA ⊢
  (with_reducible refine y_region ?_; simp only [List.size_toArray, List.length_cons, List.length_nil, Nat.reduceAdd, Nat.zero_add, List.range, List.range.loop])
  (refine y_value _ rfl rfl rfl (by k_ne) (fun _ => ⟨by go_simp; (try w_num); exact rfl, by simp [go_sem, *]⟩) ?_; walk_nrm)
  u_in rl hK
  refine goes_call rfl rfl (by k_ne) rfl H.f_add (nm_add L) rfl ⟨by u_nil, ?_⟩
  walk_nrmf addFn
  refine Goes.mono (n := 40) (hA (qt := qt + 3) ?_ _ hK) (by omega)
  q_c stepG_region_end
  q_c stepG_end
  exact QuitsD.leave0 rfl rfl H.f_done rfl hT
end Go.Proofs.Ytkfmphlnpmemdaa.Sx
