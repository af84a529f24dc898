/- NullityByRows of the program and of the reference agree, for all arguments. -/
import Derived.Test.YtfjkahkinkaheaaLemFnExactNullityByRows
namespace Go.Proofs.Ytfjkahkinkaheaa.Pure
open Go.RowKit Go.Proofs.Ytfjkahkinkaheaa.PFnExactNullityByRows Go.Proofs.YtfjkahkinkaheaaW.PrintWords Go.Proofs.YtfjkahkinkaheaaW.PrintLast Go.Proofs.Ytfjkahkinkaheaa.Bit Go.Proofs.Ytfjkahkinkaheaa.Row Go.Proofs.Ytfjkahkinkaheaa.Lin Go.Proofs.Ytfjkahkinkaheaa.Ker Go.Proofs.Ytfjkahkinkaheaa.Cnt Go.Proofs.Ytfjkahkinkaheaa.LemFnExactNullityByRows

theorem wide_0 (c : Int) : (decide (1 ≤ c ∧ c ≤ 8) && decide ((0 : Int) ≤ 0 ∧ (0 : Int) ≤ ((2 ^ c.toNat - 1 : Nat) : Int))) = decide (1 ≤ c ∧ c ≤ 8) := by
  rw [decide_eq_true (⟨Int.le_refl 0, Int.natCast_nonneg _⟩ : (0 : Int) ≤ 0 ∧ (0 : Int) ≤ ((2 ^ c.toNat - 1 : Nat) : Int)), Bool.and_true]
theorem inul (c rows : Nat) (own : Bool) (hc : c ≤ 16) (hr : rows ≤ 1000) : impl_nullityByRows.f (rows : Int) (c : Int) own = some ((c - (img (rws c own rows)).length : Nat) : Int) := by
  have hok : nrOk (rows : Int) (c : Int) = true := by
    unfold nrOk
    rw [Bool.and_eq_true, decide_eq_true_eq, decide_eq_true_eq]
    omega
  unfold impl_nullityByRows.f
  rw [if_pos hok]
  simp only [Int.toNat_natCast]
theorem pow8 {c : Nat} (h : c ≤ 8) : 2 ^ c ≤ 256 := Nat.pow_le_pow_right (n := 2) (by decide) h
theorem FnExactNullityByRows : laws_FnExactNullityByRows.Pure := by
  intro rows c own _ _
  obtain ⟨K, hK⟩ : ∃ K : Nat, K = 2000 := ⟨_, rfl⟩
  refine ⟨K, ?_⟩
  have h : ∃ r, spec_NullityByRows.f K rows c own = some r ∧ impl_NullityByRows.f rows c own = some r := by
    unfold spec_NullityByRows.f impl_NullityByRows.f
    rw [csWide_f, isWide_none, wide_0]
    simp only [bs]
    by_cases hc : 1 ≤ c ∧ c ≤ 8
    · rw [decide_eq_true hc, if_pos rfl, if_pos rfl, l1In_f, in_f]
      simp only [bs]
      by_cases hr : 1 ≤ rows ∧ rows ≤ 200
      · obtain ⟨c, rfl⟩ := Int.eq_ofNat_of_zero_le (show 0 ≤ c by omega)
        obtain ⟨rows, rfl⟩ := Int.eq_ofNat_of_zero_le (show 0 ≤ rows by omega)
        have hp := pow8 (c := c) (by omega)
        rw [decide_eq_true hr, if_pos rfl, if_pos rfl, csNul_f c (by omega) own rows (by omega) K (by omega), inul c rows own (by omega) (by omega)]
        simp only [bs]
        exact ⟨_, rfl, rfl⟩
      · rw [decide_eq_false hr]
        exact ⟨(0, false), if_neg (by decide), if_neg (by decide)⟩
    · rw [decide_eq_false hc]
      exact ⟨(0, false), if_neg (by decide), if_neg (by decide)⟩
  obtain ⟨r, h1, h2⟩ := h
  unfold laws_FnExactNullityByRows.f
  rw [h1]
  simp only [bs]
  rw [h2]
  simp only [bs]
  rw [if_pos trivial, bne_self_eq_false, if_neg (by decide)]

end Go.Proofs.Ytfjkahkinkaheaa.Pure
