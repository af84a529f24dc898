/- RowBehind of the program and of the reference agree: for all arguments. -/
import Derived.Test.YtadjapdaepkfhaaLemFnExactRowBehind
namespace Go.Proofs.Ytadjapdaepkfhaa.Pure
open Go.RowKit Go.Proofs.Ytadjapdaepkfhaa.PFnExactRowBehind Go.Proofs.YtadjapdaepkfhaaW.PrintWords Go.Proofs.YtadjapdaepkfhaaW.PrintLast Go.Proofs.Ytadjapdaepkfhaa.Bit Go.Proofs.Ytadjapdaepkfhaa.Row Go.Proofs.Ytadjapdaepkfhaa.Lin Go.Proofs.Ytadjapdaepkfhaa.LemFnExactRowBehind

theorem FnExactRowBehind : laws_FnExactRowBehind.Pure := by
  intro c own row k _ _ _
  refine ⟨300, ?_⟩
  unfold laws_FnExactRowBehind.f spec_RowBehind.f impl_RowBehind.f
  rw [csWide_f, isWide_one]
  simp only [bs]
  by_cases h : 1 ≤ c ∧ c ≤ 8
  · by_cases h2 : 0 ≤ row ∧ row ≤ ((2 ^ c.toNat - 1 : Nat) : Int)
    · rw [decide_eq_true h, decide_eq_true h2, Bool.and_self, if_pos rfl, if_pos rfl, l1In_f, in_f]
      simp only [bs]
      by_cases h3 : 0 ≤ k ∧ k ≤ 200
      · rw [decide_eq_true h3, if_pos rfl, if_pos rfl]
        obtain ⟨c, rfl⟩ := Int.eq_ofNat_of_zero_le (show 0 ≤ c by omega)
        obtain ⟨row, rfl⟩ := Int.eq_ofNat_of_zero_le h2.1
        obtain ⟨k, rfl⟩ := Int.eq_ofNat_of_zero_le h3.1
        rw [Int.toNat_natCast] at h2
        have hq := Nat.two_pow_pos c
        rw [csBehind_f c (by omega) own row (by omega) k 300 (by omega) (by omega), rowBehind_f c (by omega) own row (by omega) k (by omega)]
        simp only [bs, if_true, bne_self_eq_false]
        rfl
      · rw [decide_eq_false h3]; rfl
    · rw [decide_eq_false h2, Bool.and_false]; rfl
  · rw [decide_eq_false h, Bool.false_and]; rfl

end Go.Proofs.Ytadjapdaepkfhaa.Pure
