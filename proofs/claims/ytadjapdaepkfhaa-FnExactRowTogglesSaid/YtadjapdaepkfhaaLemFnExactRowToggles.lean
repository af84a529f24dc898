/- Lemmas on the printed functions of FnExactRowToggles: what loops and calls come to, at natural numbers in range. -/
import Derived.Test.YtadjapdaepkfhaaPFnExactRowTogglesx
import Derived.Test.YtadjapdaepkfhaaBit
import Derived.Test.YtadjapdaepkfhaaRow
namespace Go.Proofs.Ytadjapdaepkfhaa.LemFnExactRowToggles
open Go.RowKit Go.Proofs.Ytadjapdaepkfhaa.PFnExactRowToggles Go.Proofs.YtadjapdaepkfhaaW.PrintWords Go.Proofs.YtadjapdaepkfhaaW.PrintLast Go.Proofs.Ytadjapdaepkfhaa.Bit Go.Proofs.Ytadjapdaepkfhaa.Row Go.Proofs.Ytadjapdaepkfhaa.Lin

theorem whole_f (c : Nat) (h : c < 63) : impl_whole.f (c : Int) = some ((2 ^ c - 1 : Nat) : Int) := by
  unfold impl_whole.f
  rw [if_pos (Int.natCast_nonneg _), wholen c h]
theorem in_f (a b c : Int) : impl_in.f a b c = some (decide (b ≤ a ∧ a ≤ c)) := by
  unfold impl_in.f
  split
  · rename_i h; simp [h]
  · rename_i h; simp [h]
theorem l1In_f (a b c : Int) : spec_l1In.f a b c = some (decide (b ≤ a ∧ a ≤ c)) := by
  unfold spec_l1In.f
  split
  · rename_i h; simp [show b ≤ a from h]
  · rename_i h; simp [show ¬ b ≤ a from h]
theorem csToggles_f (c : Nat) (hc : c ≤ 16) (own : Bool) (row : Nat) (h : row < 2 ^ c) : spec_csToggles.f (c : Int) own (row : Int) = some ((tog c own row : Nat) : Int) := by
  have hp : (2 : Nat) ^ c ≤ 2 ^ 16 := Nat.pow_le_pow_right (by decide) hc
  have h1 : row < 2 ^ 16 := by omega
  have h2 : row * 2 ^^^ row / 2 < 2 ^ 63 := Nat.xor_lt_two_pow (by omega) (by omega)
  have h3 : row * 2 ^^^ row / 2 ^^^ row < 2 ^ 63 := Nat.xor_lt_two_pow h2 (by omega)
  have h4 := wholen c (by omega)
  unfold spec_csToggles.f
  rw [if_pos (Int.natCast_nonneg _), if_pos (Int.natCast_nonneg _), h4, twice row (by omega), half, xorn _ _ (by omega) (by omega), xorn _ _ h2 (by omega), andn _ _ h3 (by omega), andn _ _ h2 (by omega), tog_own h, tog_not]
  cases own <;> rfl
theorem rowToggles_f (c : Nat) (hc : c ≤ 16) (own : Bool) (row : Nat) (h : row < 2 ^ c) : impl_rowToggles.f (c : Int) own (row : Int) = some ((tog c own row : Nat) : Int) := by
  have hp : (2 : Nat) ^ c ≤ 2 ^ 16 := Nat.pow_le_pow_right (by decide) hc
  have h1 : row < 2 ^ 16 := by omega
  have h2 : row * 2 ^^^ row / 2 < 2 ^ 63 := Nat.xor_lt_two_pow (by omega) (by omega)
  have h3 : (row * 2 ^^^ row / 2) &&& (2 ^ c - 1) < 2 ^ 63 := Nat.lt_of_lt_of_le (mask_lt _ _) (by omega)
  unfold impl_rowToggles.f
  rw [whole_f c (by omega), twice row (by omega), half, xorn _ _ (by omega) (by omega)]
  simp only [bs]
  rw [andn _ _ h2 (by omega), xorn _ _ h3 (by omega)]
  unfold tog
  cases own <;> simp
theorem csWide_f (c row : Int) : spec_csWide.f c row = some (decide (1 ≤ c ∧ c ≤ 8) && decide (0 ≤ row ∧ row ≤ ((2 ^ c.toNat - 1 : Nat) : Int))) := by
  unfold spec_csWide.f
  rw [l1In_f]
  simp only [bs]
  by_cases h : 1 ≤ c ∧ c ≤ 8
  · obtain ⟨c, rfl⟩ := Int.eq_ofNat_of_zero_le (show 0 ≤ c by omega)
    rw [decide_eq_true h, if_pos rfl, if_pos (by omega), wholen c (by omega), l1In_f, Int.toNat_natCast, Bool.true_and]; rfl
  · rw [decide_eq_false h, if_neg (by decide), Bool.false_and]
theorem isWide_one (c row : Int) : impl_isWide.f c [row] = some (decide (1 ≤ c ∧ c ≤ 8) && decide (0 ≤ row ∧ row ≤ ((2 ^ c.toNat - 1 : Nat) : Int))) := by
  unfold impl_isWide.f noRow
  simp [List.any]
theorem isWide_none (c : Int) : impl_isWide.f c [] = some (decide (1 ≤ c ∧ c ≤ 8)) := by
  unfold impl_isWide.f
  simp

end Go.Proofs.Ytadjapdaepkfhaa.LemFnExactRowToggles
