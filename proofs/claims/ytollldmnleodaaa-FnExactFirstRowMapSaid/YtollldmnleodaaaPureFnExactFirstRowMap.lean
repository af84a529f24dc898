/- FirstRowMap of the program and of the reference agree, and their lists are new memory: for all arguments. -/
import Derived.Test.YtollldmnleodaaaLemFnExactFirstRowMap
namespace Go.Proofs.Ytollldmnleodaaa.Pure
open Go.RowKit Go.Proofs.Ytollldmnleodaaa.PFnExactFirstRowMap Go.Proofs.YtollldmnleodaaaW.PrintWords Go.Proofs.YtollldmnleodaaaW.PrintLast Go.Proofs.Ytollldmnleodaaa.Bit Go.Proofs.Ytollldmnleodaaa.Row Go.Proofs.Ytollldmnleodaaa.Lin Go.Proofs.Ytollldmnleodaaa.LemFnExactFirstRowMap

/-- The law, once both functions return the same short list. -/
theorem law_of {r c own : _} {l : List Int} {b : Bool} {K : Nat} (hl : l.length < 2 ^ 62) (hs : ∀ k, K ≤ k → spec_FirstRowMap.f k r c own = some (l, b)) (hi : ∀ k, K ≤ k → impl_FirstRowMap.f k r c own = some (l, b)) : laws_FnExactFirstRowMap.f (K + l.length + 5) r c own = some true := by
  unfold laws_FnExactFirstRowMap.f
  rw [hs _ (by omega), hi _ (by omega)]
  simp only [bs]
  rw [eqIntS_self l hl _ (by omega)]
  simp only [bs, if_true, bne_self_eq_false]
  rw [laws_FnExactFirstRowMap.j0, if_neg (by decide), mark_any l hl _ (by omega)]
  simp only [bs]
  rw [held_any l.length hl _ (by omega)]
  simp only [bs]
  rw [if_neg (by omega), if_true, hi _ (by omega)]
  simp only [bs]
  rw [eqIntS_self l hl _ (by omega)]
  simp only [bs, if_true, bne_self_eq_false]
  rw [laws_FnExactFirstRowMap.j1, if_neg (by decide), held_any l.length hl _ (by omega)]
  simp only [bs]
  rw [if_neg (by omega), if_true]

theorem FnExactFirstRowMap : laws_FnExactFirstRowMap.Pure := by
  intro r c own _ _
  by_cases h : GridOk r c
  · obtain ⟨r, c, rfl, rfl, h1, h2, h3, h4, h5⟩ := grid_nat h
    refine ⟨_, law_of (K := c + r + 1) (l := zs (fmap r c own c)) (b := true) ?_ (fun k hk => ?_) (fun k hk => ?_)⟩
    · rw [zs_length]
      simp only [fmap, List.length_map, List.length_range]
      exact Nat.lt_of_le_of_lt h4 (by decide)
    · exact spec_FirstRowMap_yes r c own h h5 h4 h2 h1 k (by omega)
    · exact impl_FirstRowMap_yes r c own h h5 h4 h2 h1 k (by omega)
  · exact ⟨_, law_of (K := 0) (l := []) (b := false) (by decide) (fun k _ => spec_FirstRowMap_no r c own h k) (fun k _ => impl_FirstRowMap_no r c own h k)⟩

end Go.Proofs.Ytollldmnleodaaa.Pure
