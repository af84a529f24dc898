/- RowToggles of the program and of the reference agree: for all arguments. -/
import Derived.Test.YtadjapdaepkfhaaLemFnExactRowToggles
namespace Go.Proofs.Ytadjapdaepkfhaa.Pure
open Go.RowKit Go.Proofs.Ytadjapdaepkfhaa.PFnExactRowToggles Go.Proofs.YtadjapdaepkfhaaW.PrintWords Go.Proofs.YtadjapdaepkfhaaW.PrintLast Go.Proofs.Ytadjapdaepkfhaa.Bit Go.Proofs.Ytadjapdaepkfhaa.Row Go.Proofs.Ytadjapdaepkfhaa.Lin Go.Proofs.Ytadjapdaepkfhaa.LemFnExactRowToggles

theorem FnExactRowToggles : laws_FnExactRowToggles.Pure := by
  intro c own row _ _
  unfold laws_FnExactRowToggles.f spec_RowToggles.f impl_RowToggles.f
  rw [csWide_f, isWide_one]
  simp only [bs]
  by_cases h : 1 ≤ c ∧ c ≤ 8
  · by_cases h2 : 0 ≤ row ∧ row ≤ ((2 ^ c.toNat - 1 : Nat) : Int)
    · rw [decide_eq_true h, decide_eq_true h2, Bool.and_self, if_pos rfl, if_pos rfl]
      obtain ⟨c, rfl⟩ := Int.eq_ofNat_of_zero_le (show 0 ≤ c by omega)
      obtain ⟨row, rfl⟩ := Int.eq_ofNat_of_zero_le h2.1
      rw [Int.toNat_natCast] at h2
      have hq := Nat.two_pow_pos c
      rw [csToggles_f c (by omega) own row (by omega), rowToggles_f c (by omega) own row (by omega)]
      simp only [bs, if_true, bne_self_eq_false]
      rfl
    · rw [decide_eq_false h2, Bool.and_false]; rfl
  · rw [decide_eq_false h, Bool.false_and]; rfl

end Go.Proofs.Ytadjapdaepkfhaa.Pure
