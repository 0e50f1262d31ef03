/- RepairSame: the law's function answers true. -/
import Derived.Test.YtppohimlocaaoaaPends
import Derived.Test.YtppohimlocaaoaaPref
import Derived.Test.YtppohimlocaaoaaKRepairSame
namespace Go.Proofs.Ytppohimlocaaoaa
open Go Go.Proofs.Ytppohimlocaaoaa.Sx
set_option linter.unusedVariables false
set_option linter.unusedSimpArgs false
theorem repairsS_ok : weirkeep_repairs_F = some true := by kernel_rfl
abbrev TS : Type := Int × Int × Int × List Arc × List Int × Int
def GoesS (σ : TS) : Prop := Goes ⟨σ.1, σ.2.1, σ.2.2.1, σ.2.2.2.1⟩ σ.2.2.2.2.1 σ.2.2.2.2.2
theorem ans_step {x : Option (Net × List Int × Int × Int)} (hx : Ans x) {a b c : Int} {L : List Arc} {f : List Int} {v : Int} (h : Goes ⟨a, b, c, L⟩ f v) :
    ∃ σ' : TS, (x.bind fun (r, g, w, e) => if e = 0 then some (r.n, r.s, r.t, r.as, g, w) else some (a, b, c, L, f, v)) = some σ' ∧ GoesS σ' := by
  rcases hx with ⟨e, he, rfl⟩ | ⟨m, g, w, rfl, hg⟩
  · rw [bind_some']
    dsimp only
    rw [if_neg he]
    exact ⟨_, rfl, h⟩
  · rw [bind_some']
    dsimp only
    rw [if_pos rfl]
    exact ⟨_, rfl, hg⟩
theorem changed_step {n : Net} {l : List Need} {j : Nat} {σ : TS} (h : GoesS σ) : ∃ σ', weirkeep_changed_B1 n l j σ = some σ' ∧ GoesS σ' := by
  obtain ⟨a, b, c, L, f, v⟩ := σ
  have h' : Goes ⟨a, b, c, L⟩ f v := h
  unfold weirkeep_changed_B1
  dsimp only
  obtain ⟨r, er, r0, r1⟩ := rest_ok (n := (l.getD j El.d).f) (m := 4) (by decide) (by decide)
  rw [er, bind_some']
  by_cases c0 : r = 0
  · rw [if_pos c0]
    exact ans_step (ans_cap h' _ _) h'
  rw [if_neg c0]
  by_cases c1 : r = 1
  · rw [if_pos c1]
    exact ans_step (ans_add h' _) h'
  rw [if_neg c1]
  by_cases c2 : r = 2
  · rw [if_pos c2]
    exact ans_step (ans_drop h' _) h'
  rw [if_neg c2]
  exact ans_step (ans_ends h' _ _) h'
theorem RepairSame_true (n : Net) (l : List Need) : weirkeep_RepairSame_F n l = some true := by
  unfold weirkeep_RepairSame_F
  rw [repairsS_ok, bind_some', if_neg (by decide)]
  unfold weirkeep_changed_F
  by_cases hn : OkNet n
  · obtain ⟨f, v, e, hf, hv, hM⟩ := of_max hn
    rw [e, bind_some']
    dsimp only
    rw [if_neg (by decide)]
    obtain ⟨⟨a, b, c, L, g, w⟩, e1, h1⟩ := forN_inv (f := weirkeep_changed_B1 n l) (fun _ σ => GoesS σ) (n := l.length) (k := 0) (s := (n.n, n.s, n.t, n.as, f, v)) ⟨hf, hv, hM⟩ fun j σ _ _ h => changed_step h
    have h2 : Goes ⟨a, b, c, L⟩ g w := h1
    rw [e1, bind_some', bind_some']
    dsimp only
    obtain ⟨g', w', e2, _, _, hM2⟩ := of_max h2.flow.net
    have e3 := h2.max.uniq hM2
    have e4 : w = netAt L g b := h2.val.symm
    have e5 : flow_Value_F ⟨a, b, c, L⟩ g = some (netAt L g b, 0) := value_ok h2.flow
    rw [if_neg (by decide), e2, bind_some']
    dsimp only
    rw [e5, bind_some']
    dsimp only
    rw [if_pos rfl, if_pos rfl, if_pos e3, if_pos e4, repair_check h2.flow h2.max', bind_some']
    rfl
  · obtain ⟨e, he, _, h⟩ := of_bad hn
    rw [h, bind_some']
    dsimp only
    rw [if_pos he, bind_some']
    dsimp only
    rw [if_pos (by decide)]
end Go.Proofs.Ytppohimlocaaoaa
