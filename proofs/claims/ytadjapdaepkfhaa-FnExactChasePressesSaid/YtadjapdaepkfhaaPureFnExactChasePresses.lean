/- ChasePresses of the program and of the reference agree: for all arguments. -/
import Derived.Test.YtadjapdaepkfhaaLemFnExactChasePresses
namespace Go.Proofs.Ytadjapdaepkfhaa.Pure
open Go.RowKit Go.Proofs.Ytadjapdaepkfhaa.PFnExactChasePresses Go.Proofs.YtadjapdaepkfhaaW.PrintWords Go.Proofs.YtadjapdaepkfhaaW.PrintLast Go.Proofs.Ytadjapdaepkfhaa.Bit Go.Proofs.Ytadjapdaepkfhaa.Row Go.Proofs.Ytadjapdaepkfhaa.Lin Go.Proofs.Ytadjapdaepkfhaa.LemFnExactChasePresses

theorem law_of {r c : Int} {own : Bool} {L f x : Int} {b : Bool} {k : Nat} (hs : spec_ChasePresses.f k r c own L f = some (x, b)) (hi : impl_ChasePresses.f k r c own L f = some (x, b)) : laws_FnExactChasePresses.f k r c own L f = some true := by
  unfold laws_FnExactChasePresses.f
  rw [hs, hi]
  simp only [bs, if_true, bne_self_eq_false]
  rfl
theorem FnExactChasePresses : laws_FnExactChasePresses.Pure := by
  intro r c own L f _ _ _ _
  by_cases h : GridOk r c
  · obtain ⟨r, c, rfl, rfl, h1, h2, h3, h4, h5⟩ := grid_nat h
    have hp : (2 : Nat) ^ (c * r) ≤ 2 ^ 16 := Nat.pow_le_pow_right (by decide) h5
    have hq := Nat.two_pow_pos (c * r)
    have hq2 := Nat.two_pow_pos c
    refine ⟨r + 2, ?_⟩
    by_cases g1 : 0 ≤ L ∧ L ≤ ((2 ^ (c * r) - 1 : Nat) : Int)
    · by_cases g2 : 0 ≤ f ∧ f ≤ ((2 ^ c - 1 : Nat) : Int)
      · obtain ⟨L, rfl⟩ := Int.eq_ofNat_of_zero_le g1.1
        obtain ⟨f, rfl⟩ := Int.eq_ofNat_of_zero_le g2.1
        refine law_of (x := ((prs c own L f r : Nat) : Int)) (b := true) ?_ ?_
        · unfold spec_ChasePresses.f
          rw [csTask_yes r c _ _ h h5 h4, decide_eq_true g1, decide_eq_true g2]
          simp only [bs, Bool.and_self, if_true]
          rw [csChase_f r c own L f h4 h5 h2 h1 (by omega) (by omega) (r + 2) (by omega)]
          simp only [bs]
        · unfold impl_ChasePresses.f
          rw [gridOf_yes own h]
          simp only [bs, if_true]
          rw [isBoard_f r c own _ h5, decide_eq_true g1]
          simp only [bs, if_true]
          rw [isFirst_f r c own _ h4, decide_eq_true g2]
          simp only [bs, if_true]
          rw [chase_f r c own L f h4 h5 h2 h1 (by omega) (by omega) (r + 2) (by omega)]
          simp only [bs]
      · refine law_of (x := 0) (b := false) ?_ ?_
        · unfold spec_ChasePresses.f
          rw [csTask_yes r c _ _ h h5 h4, decide_eq_false g2, Bool.and_false]; rfl
        · unfold impl_ChasePresses.f
          rw [gridOf_yes own h]
          simp only [bs, if_true]
          rw [isBoard_f r c own _ h5, decide_eq_true g1]
          simp only [bs, if_true]
          rw [isFirst_f r c own _ h4, decide_eq_false g2]; rfl
    · refine law_of (x := 0) (b := false) ?_ ?_
      · unfold spec_ChasePresses.f
        rw [csTask_yes r c _ _ h h5 h4, decide_eq_false g1, Bool.false_and]; rfl
      · unfold impl_ChasePresses.f
        rw [gridOf_yes own h]
        simp only [bs, if_true]
        rw [isBoard_f r c own _ h5, decide_eq_false g1]; rfl
  · refine ⟨1, law_of (x := 0) (b := false) ?_ ?_⟩
    · unfold spec_ChasePresses.f
      rw [csTask_no L f h]; rfl
    · unfold impl_ChasePresses.f
      rw [gridOf_no own h]; rfl

end Go.Proofs.Ytadjapdaepkfhaa.Pure
