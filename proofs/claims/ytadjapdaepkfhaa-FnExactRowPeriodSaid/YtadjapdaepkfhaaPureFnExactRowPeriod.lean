/- RowPeriod of the program and of the reference agree, and both end: for all arguments. -/
import Derived.Test.YtadjapdaepkfhaaLemFnExactRowPeriod
namespace Go.Proofs.Ytadjapdaepkfhaa.Pure
open Go.RowKit Go.Proofs.Ytadjapdaepkfhaa.PFnExactRowPeriod Go.Proofs.YtadjapdaepkfhaaW.PrintWords Go.Proofs.YtadjapdaepkfhaaW.PrintLast Go.Proofs.Ytadjapdaepkfhaa.Bit Go.Proofs.Ytadjapdaepkfhaa.Row Go.Proofs.Ytadjapdaepkfhaa.Lin Go.Proofs.Ytadjapdaepkfhaa.LemFnExactRowPeriod

theorem law_of {c row x : Int} {own : Bool} {b : Bool} {k : Nat} (hs : spec_RowPeriod.f k c own row = some (x, b)) (hi : impl_RowPeriod.f c own row = some (x, b)) : laws_FnExactRowPeriod.f k c own row = some true := by
  unfold laws_FnExactRowPeriod.f
  rw [hs, hi]
  simp only [bs, if_true, bne_self_eq_false]
  rfl
theorem FnExactRowPeriod : laws_FnExactRowPeriod.Pure := by
  intro c own row _ _
  refine ⟨300, ?_⟩
  by_cases h : 1 ≤ c ∧ c ≤ 8
  · by_cases h2 : 0 ≤ row ∧ row ≤ ((2 ^ c.toNat - 1 : Nat) : Int)
    · have hok : rpOk c row = true := by unfold rpOk; rw [decide_eq_true h, decide_eq_true h2]; rfl
      by_cases h0 : row = 0
      · refine law_of (x := 0) (b := false) ?_ ?_
        · unfold spec_RowPeriod.f
          rw [csWide_f, decide_eq_true h, decide_eq_true h2]
          simp only [bs, Bool.and_self, if_true]
          rw [if_pos h0, spec_RowPeriod.j0, if_pos rfl]
        · unfold impl_RowPeriod.f
          rw [if_neg fun e => e.2.1 h0]
      · by_cases h6 : c ≤ 6
        · obtain ⟨c, rfl⟩ := Int.eq_ofNat_of_zero_le (show 0 ≤ c by omega)
          obtain ⟨row, rfl⟩ := Int.eq_ofNat_of_zero_le h2.1
          have hq := Nat.two_pow_pos c
          have h2' := h2
          rw [Int.toNat_natCast] at h2'
          obtain ⟨p1, p2, p3, p4⟩ := per_is c (by omega) own row (by omega) (by omega)
          refine law_of (x := ((per c own row : Nat) : Int)) (b := true) ?_ ?_
          · unfold spec_RowPeriod.f
            rw [csWide_f, decide_eq_true h, decide_eq_true h2]
            simp only [bs, Bool.and_self, if_true]
            rw [if_neg h0, spec_RowPeriod.j0, if_neg (by simp <;> omega)]
            exact spec_period_l c (by omega) own row (by omega) (by omega) (per c own row - 1) 0 299 (by omega) (by omega)
          · unfold impl_RowPeriod.f
            rw [if_pos ⟨hok, h0, h6⟩]
            simp only [Int.toNat_natCast]
        · refine law_of (x := 0) (b := false) ?_ ?_
          · unfold spec_RowPeriod.f
            rw [csWide_f, decide_eq_true h, decide_eq_true h2]
            simp only [bs, Bool.and_self, if_true]
            rw [if_neg h0, spec_RowPeriod.j0, if_pos (by simp <;> omega)]
          · unfold impl_RowPeriod.f
            rw [if_neg fun e => h6 e.2.2]
    · have hok : rpOk c row = false := by unfold rpOk; rw [decide_eq_false h2, Bool.and_false]
      refine law_of (x := 0) (b := false) ?_ ?_
      · unfold spec_RowPeriod.f
        rw [csWide_f, decide_eq_false h2, Bool.and_false]
        simp only [bs, Bool.false_eq_true, if_false]
        rw [spec_RowPeriod.j0, if_pos rfl]
      · unfold impl_RowPeriod.f
        rw [if_neg fun e => by rw [hok] at e; cases e.1]
  · have hok : rpOk c row = false := by unfold rpOk; rw [decide_eq_false h, Bool.false_and]
    refine law_of (x := 0) (b := false) ?_ ?_
    · unfold spec_RowPeriod.f
      rw [csWide_f, decide_eq_false h, Bool.false_and]
      simp only [bs, Bool.false_eq_true, if_false]
      rw [spec_RowPeriod.j0, if_pos rfl]
    · unfold impl_RowPeriod.f
      rw [if_neg fun e => by rw [hok] at e; cases e.1]

end Go.Proofs.Ytadjapdaepkfhaa.Pure
