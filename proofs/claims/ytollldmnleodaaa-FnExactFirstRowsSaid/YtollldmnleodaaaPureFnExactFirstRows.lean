/- FirstRows of the program and of the reference agree, and their lists are new memory: for all arguments. -/
import Derived.Test.YtollldmnleodaaaLemFnExactFirstRows
namespace Go.Proofs.Ytollldmnleodaaa.Pure
open Go.RowKit Go.Proofs.Ytollldmnleodaaa.PFnExactFirstRows Go.Proofs.YtollldmnleodaaaW.PrintWords Go.Proofs.YtollldmnleodaaaW.PrintLast Go.Proofs.Ytollldmnleodaaa.Bit Go.Proofs.Ytollldmnleodaaa.Row Go.Proofs.Ytollldmnleodaaa.Lin Go.Proofs.Ytollldmnleodaaa.LemFnExactFirstRows

/-- The law, once both functions return the same short list. -/
theorem law_of {r c own L : _} {l : List Int} {b : Bool} {K : Nat} (hl : l.length < 2 ^ 62) (hs : ∀ k, K ≤ k → spec_FirstRows.f k r c own L = some (l, b)) (hi : ∀ k, K ≤ k → impl_FirstRows.f k r c own L = some (l, b)) : laws_FnExactFirstRows.f (K + l.length + 5) r c own L = some true := by
  unfold laws_FnExactFirstRows.f
  rw [hs _ (by omega), hi _ (by omega)]
  simp only [bs]
  rw [eqIntS_self l hl _ (by omega)]
  simp only [bs, if_true, bne_self_eq_false]
  rw [laws_FnExactFirstRows.j0, if_neg (by decide), mark_any l hl _ (by omega)]
  simp only [bs]
  rw [held_any l.length hl _ (by omega)]
  simp only [bs]
  rw [if_neg (by omega), if_true, hi _ (by omega)]
  simp only [bs]
  rw [eqIntS_self l hl _ (by omega)]
  simp only [bs, if_true, bne_self_eq_false]
  rw [laws_FnExactFirstRows.j1, if_neg (by decide), held_any l.length hl _ (by omega)]
  simp only [bs]
  rw [if_neg (by omega), if_true]

theorem FnExactFirstRows : laws_FnExactFirstRows.Pure := by
  intro r c own L _ _ _
  by_cases h : GridOk r c
  · obtain ⟨r, c, rfl, rfl, h1, h2, h3, h4, h5⟩ := grid_nat h
    by_cases g : (0 ≤ L ∧ L ≤ ((2 ^ (c * r) - 1 : Nat) : Int)) ∧ c ≤ 8
    · refine ⟨_, law_of (K := 2 ^ c + r + 1) (l := zs (firsts r c own L.toNat)) (b := true) ?_ (fun k hk => ?_) (fun k hk => ?_)⟩
      · rw [zs_length]
        refine Nat.lt_of_le_of_lt (List.length_filter_le _ _) ?_
        rw [List.length_range]
        exact Nat.lt_of_le_of_lt (Nat.pow_le_pow_right (by decide) h4) (by decide)
      · rw [spec_FirstRows_yes r c own L h h5 h4 h2 h1 k (by omega), if_pos g]
      · rw [impl_FirstRows_yes r c own L h h5 h4 h2 h1 k (by omega), if_pos g]
    · refine ⟨_, law_of (K := 2 ^ c + r + 1) (l := []) (b := false) (by decide) (fun k hk => ?_) (fun k hk => ?_)⟩
      · rw [spec_FirstRows_yes r c own L h h5 h4 h2 h1 k (by omega), if_neg g]
      · rw [impl_FirstRows_yes r c own L h h5 h4 h2 h1 k (by omega), if_neg g]
  · exact ⟨_, law_of (K := 0) (l := []) (b := false) (by decide) (fun k _ => spec_FirstRows_no r c own L h k) (fun k _ => impl_FirstRows_no r c own L h k)⟩

end Go.Proofs.Ytollldmnleodaaa.Pure
