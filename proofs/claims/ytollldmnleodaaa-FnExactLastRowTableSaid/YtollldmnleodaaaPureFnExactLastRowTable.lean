/- LastRowTable of the program and of the reference agree, and their lists are new memory: for all arguments. -/
import Derived.Test.YtollldmnleodaaaLemFnExactLastRowTable
namespace Go.Proofs.Ytollldmnleodaaa.Pure
open Go.RowKit Go.Proofs.Ytollldmnleodaaa.PFnExactLastRowTable Go.Proofs.YtollldmnleodaaaW.PrintWords Go.Proofs.YtollldmnleodaaaW.PrintLast Go.Proofs.Ytollldmnleodaaa.Bit Go.Proofs.Ytollldmnleodaaa.Row Go.Proofs.Ytollldmnleodaaa.Lin Go.Proofs.Ytollldmnleodaaa.LemFnExactLastRowTable

/-- The law, once both functions return the same short list. -/
theorem law_of {r c own : _} {l : List Int} {b : Bool} {K : Nat} (hl : l.length < 2 ^ 62) (hs : ∀ k, K ≤ k → spec_LastRowTable.f k r c own = some (l, b)) (hi : ∀ k, K ≤ k → impl_LastRowTable.f k r c own = some (l, b)) : laws_FnExactLastRowTable.f (K + l.length + 5) r c own = some true := by
  unfold laws_FnExactLastRowTable.f
  rw [hs _ (by omega), hi _ (by omega)]
  simp only [bs]
  rw [eqIntS_self l hl _ (by omega)]
  simp only [bs, if_true, bne_self_eq_false]
  rw [laws_FnExactLastRowTable.j0, if_neg (by decide), mark_any l hl _ (by omega)]
  simp only [bs]
  rw [held_any l.length hl _ (by omega)]
  simp only [bs]
  rw [if_neg (by omega), if_true, hi _ (by omega)]
  simp only [bs]
  rw [eqIntS_self l hl _ (by omega)]
  simp only [bs, if_true, bne_self_eq_false]
  rw [laws_FnExactLastRowTable.j1, if_neg (by decide), held_any l.length hl _ (by omega)]
  simp only [bs]
  rw [if_neg (by omega), if_true]

theorem FnExactLastRowTable : laws_FnExactLastRowTable.Pure := by
  intro r c own _ _
  by_cases h : GridOk r c
  · obtain ⟨r, c, rfl, rfl, h1, h2, h3, h4, h5⟩ := grid_nat h
    have hq := Nat.two_pow_pos c
    by_cases g : c ≤ 5
    · refine ⟨_, law_of (K := 2 ^ c + 2 ^ c + r + 2) (l := table r c own (2 ^ c)) (b := true) ?_ (fun k hk => ?_) (fun k hk => ?_)⟩
      · simp only [table, List.length_map, List.length_range]
        exact Nat.lt_of_le_of_lt (Nat.pow_le_pow_right (by decide) h4) (by decide)
      · obtain ⟨k, rfl⟩ : ∃ m, k = m + 1 := ⟨k - 1, by omega⟩
        rw [spec_LastRowTable_yes r c own h h5 h4 h2 h1 k (by omega), if_pos g]
      · obtain ⟨k, rfl⟩ : ∃ m, k = m + 1 := ⟨k - 1, by omega⟩
        rw [impl_LastRowTable_yes r c own h h5 h4 h2 h1 k (by omega), if_pos g]
    · refine ⟨_, law_of (K := 2 ^ c + 2 ^ c + r + 2) (l := []) (b := false) (by decide) (fun k hk => ?_) (fun k hk => ?_)⟩
      · obtain ⟨k, rfl⟩ : ∃ m, k = m + 1 := ⟨k - 1, by omega⟩
        rw [spec_LastRowTable_yes r c own h h5 h4 h2 h1 k (by omega), if_neg g]
      · obtain ⟨k, rfl⟩ : ∃ m, k = m + 1 := ⟨k - 1, by omega⟩
        rw [impl_LastRowTable_yes r c own h h5 h4 h2 h1 k (by omega), if_neg g]
  · refine ⟨_, law_of (K := 1) (l := []) (b := false) (by decide) (fun k hk => ?_) (fun k hk => ?_)⟩
    · obtain ⟨k, rfl⟩ : ∃ m, k = m + 1 := ⟨k - 1, by omega⟩
      exact spec_LastRowTable_no r c own h k
    · obtain ⟨k, rfl⟩ : ∃ m, k = m + 1 := ⟨k - 1, by omega⟩
      exact impl_LastRowTable_no r c own h k

end Go.Proofs.Ytollldmnleodaaa.Pure
