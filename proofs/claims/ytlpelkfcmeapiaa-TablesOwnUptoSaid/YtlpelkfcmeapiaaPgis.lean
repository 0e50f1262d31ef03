/- Package gale: Make makes a table just if there is one. -/
import Derived.Test.YtlpelkfcmeapiaaPgale3
import Derived.Test.YtlpelkfcmeapiaaGkeep
namespace Go.Proofs.Ytlpelkfcmeapiaa
open Go Go.Proofs.Ytlpelkfcmeapiaa.Sx
set_option linter.unusedVariables false
set_option linter.unusedSimpArgs false
/-- a table with these sums -/
def IsT (rows cols : List Int) (M : Nat → Nat → Int) : Prop := (∀ i k, M i k = 0 ∨ M i k = 1) ∧ (∀ i, i < rows.length → tot (M i) cols.length = rows.getD i 0) ∧ ∀ k, k < cols.length → tot (fun i => M i k) rows.length = cols.getD k 0
/-- Make's answer: an error of the form, or is there a table -/
theorem make_is (rows cols : List Int) : ∃ out e, gale_Make_F rows cols = some (out, e) ∧ ((e ≠ 0 ∧ e ≠ 5) ∨ OkG rows cols ∧ (e = 0 ↔ ∃ M, IsT rows cols M)) := by
  by_cases hg : OkG rows cols
  · by_cases hT : ∃ M, IsT rows cols M
    · obtain ⟨M, m1, m2, m3⟩ := hT
      obtain ⟨out, e⟩ := make_complete hg ⟨M, m1, fun i hi => by rw [Nat.zero_add]; exact m2 i (by omega), fun k hk => by rw [Nat.sub_zero]; exact m3 k hk⟩
      exact ⟨out, 0, e, .inr ⟨hg, fun _ => ⟨M, m1, m2, m3⟩, fun _ => rfl⟩⟩
    · rcases make_gale rows cols with ⟨e, he, h⟩ | ⟨_, out, h, hl, hr, hc⟩
      · exact ⟨[], e, h, .inr ⟨hg, fun z => absurd z he, fun z => absurd z hT⟩⟩
      · exfalso
        refine hT ⟨fun i k => if k < cols.length then bit (out.getD i El.d).v (k : Int) else 0, fun i k => ?_, fun i hi => ?_, fun k hk => ?_⟩
        · have := bit01 (out.getD i El.d).v (k : Int)
          dsimp only
          split
          · exact this
          · exact .inl rfl
        · obtain ⟨r1, r2⟩ := hr i hi
          have hc12 := hg.c
          obtain ⟨y, hy⟩ : ∃ y, 16 = cols.length + y := ⟨16 - cols.length, by omega⟩
          unfold onesG at r1
          rw [hy, tot_split, tot_zero (f := fun j => bit (out.getD i El.d).v ((cols.length + j : Nat) : Int)) fun j hj => bit_hi r2 (by omega) (by omega)] at r1
          rw [tot_congr (g := fun k => bit (out.getD i El.d).v (k : Int)) fun k hk => if_pos hk]
          omega
        · rw [← hc k hk]
          exact tot_congr fun i _ => if_pos hk
  · rcases make_gale rows cols with ⟨e, he, h⟩ | ⟨hg', _⟩
    · refine ⟨[], e, h, .inl ⟨he, fun z => ?_⟩⟩
      subst z
      rcases check_galeL rows cols with ⟨hg', _⟩ | ⟨e1, he1, hch⟩
      · exact hg hg'
      · unfold gale_Make_F at h
        rw [hch, bind_some', if_pos he1] at h
        have : e1 = 5 := by injection h with h; injection h with _ h
        subst this
        revert hch
        unfold gale_Check_F
        intro hch
        split at hch
        · cases hch
        split at hch
        · cases hch
        obtain ⟨q, e2, hq⟩ := forC_or (f := gale_Check_B1 rows cols) (fun _ _ => True) (fun q => q = .ret 1 ∨ q = .go ()) (n := rows.length) (k := 0) (s := ()) trivial (fun j s _ _ _ => by
          unfold gale_Check_B1
          repeat' split
          · exact .inr (.inr ⟨_, rfl, .inl rfl⟩)
          · exact .inr (.inr ⟨_, rfl, .inl rfl⟩)
          · exact .inl ⟨(), rfl, trivial⟩) (fun _ _ => .inr rfl)
        rw [e2, bind_some'] at hch
        rcases hq with rfl | rfl
        · cases hch
        dsimp only at hch
        obtain ⟨q, e3, hq⟩ := forC_or (f := gale_Check_B2 rows cols) (fun _ _ => True) (fun q => q = .ret 1 ∨ q = .go ()) (n := cols.length) (k := 0) (s := ()) trivial (fun j s _ _ _ => by
          unfold gale_Check_B2
          repeat' split
          · exact .inr (.inr ⟨_, rfl, .inl rfl⟩)
          · exact .inr (.inr ⟨_, rfl, .inl rfl⟩)
          · exact .inl ⟨(), rfl, trivial⟩) (fun _ _ => .inr rfl)
        rw [e3, bind_some'] at hch
        rcases hq with rfl | rfl
        · cases hch
        · cases hch
    · exact absurd hg' hg
end Go.Proofs.Ytlpelkfcmeapiaa
