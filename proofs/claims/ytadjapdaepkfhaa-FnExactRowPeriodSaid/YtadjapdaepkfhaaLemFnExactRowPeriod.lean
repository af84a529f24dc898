/- Lemmas on the printed functions of FnExactRowPeriod: what loops and calls come to, at natural numbers in range. -/
import Derived.Test.YtadjapdaepkfhaaPFnExactRowPeriodx
import Derived.Test.YtadjapdaepkfhaaBit
import Derived.Test.YtadjapdaepkfhaaPer
namespace Go.Proofs.Ytadjapdaepkfhaa.LemFnExactRowPeriod
open Go.RowKit Go.Proofs.Ytadjapdaepkfhaa.PFnExactRowPeriod Go.Proofs.YtadjapdaepkfhaaW.PrintWords Go.Proofs.YtadjapdaepkfhaaW.PrintLast Go.Proofs.Ytadjapdaepkfhaa.Bit Go.Proofs.Ytadjapdaepkfhaa.Row Go.Proofs.Ytadjapdaepkfhaa.Lin

theorem whole_f (c : Nat) (h : c < 63) : impl_whole.f (c : Int) = some ((2 ^ c - 1 : Nat) : Int) := by
  unfold impl_whole.f
  rw [if_pos (Int.natCast_nonneg _), wholen c h]
theorem in_f (a b c : Int) : impl_in.f a b c = some (decide (b ≤ a ∧ a ≤ c)) := by
  unfold impl_in.f
  split
  · rename_i h; simp [h]
  · rename_i h; simp [h]
theorem l1In_f (a b c : Int) : spec_l1In.f a b c = some (decide (b ≤ a ∧ a ≤ c)) := by
  unfold spec_l1In.f
  split
  · rename_i h; simp [show b ≤ a from h]
  · rename_i h; simp [show ¬ b ≤ a from h]
theorem csToggles_f (c : Nat) (hc : c ≤ 16) (own : Bool) (row : Nat) (h : row < 2 ^ c) : spec_csToggles.f (c : Int) own (row : Int) = some ((tog c own row : Nat) : Int) := by
  have hp : (2 : Nat) ^ c ≤ 2 ^ 16 := Nat.pow_le_pow_right (by decide) hc
  have h1 : row < 2 ^ 16 := by omega
  have h2 : row * 2 ^^^ row / 2 < 2 ^ 63 := Nat.xor_lt_two_pow (by omega) (by omega)
  have h3 : row * 2 ^^^ row / 2 ^^^ row < 2 ^ 63 := Nat.xor_lt_two_pow h2 (by omega)
  have h4 := wholen c (by omega)
  unfold spec_csToggles.f
  rw [if_pos (Int.natCast_nonneg _), if_pos (Int.natCast_nonneg _), h4, twice row (by omega), half, xorn _ _ (by omega) (by omega), xorn _ _ h2 (by omega), andn _ _ h3 (by omega), andn _ _ h2 (by omega), tog_own h, tog_not]
  cases own <;> rfl
theorem rowToggles_f (c : Nat) (hc : c ≤ 16) (own : Bool) (row : Nat) (h : row < 2 ^ c) : impl_rowToggles.f (c : Int) own (row : Int) = some ((tog c own row : Nat) : Int) := by
  have hp : (2 : Nat) ^ c ≤ 2 ^ 16 := Nat.pow_le_pow_right (by decide) hc
  have h1 : row < 2 ^ 16 := by omega
  have h2 : row * 2 ^^^ row / 2 < 2 ^ 63 := Nat.xor_lt_two_pow (by omega) (by omega)
  have h3 : (row * 2 ^^^ row / 2) &&& (2 ^ c - 1) < 2 ^ 63 := Nat.lt_of_lt_of_le (mask_lt _ _) (by omega)
  unfold impl_rowToggles.f
  rw [whole_f c (by omega), twice row (by omega), half, xorn _ _ (by omega) (by omega)]
  simp only [bs]
  rw [andn _ _ h2 (by omega), xorn _ _ h3 (by omega)]
  unfold tog
  cases own <;> simp
theorem csWide_f (c row : Int) : spec_csWide.f c row = some (decide (1 ≤ c ∧ c ≤ 8) && decide (0 ≤ row ∧ row ≤ ((2 ^ c.toNat - 1 : Nat) : Int))) := by
  unfold spec_csWide.f
  rw [l1In_f]
  simp only [bs]
  by_cases h : 1 ≤ c ∧ c ≤ 8
  · obtain ⟨c, rfl⟩ := Int.eq_ofNat_of_zero_le (show 0 ≤ c by omega)
    rw [decide_eq_true h, if_pos rfl, if_pos (by omega), wholen c (by omega), l1In_f, Int.toNat_natCast, Bool.true_and]; rfl
  · rw [decide_eq_false h, if_neg (by decide), Bool.false_and]
theorem isWide_one (c row : Int) : impl_isWide.f c [row] = some (decide (1 ≤ c ∧ c ≤ 8) && decide (0 ≤ row ∧ row ≤ ((2 ^ c.toNat - 1 : Nat) : Int))) := by
  unfold impl_isWide.f noRow
  simp [List.any]
theorem isWide_none (c : Int) : impl_isWide.f c [] = some (decide (1 ≤ c ∧ c ≤ 8)) := by
  unfold impl_isWide.f
  simp
theorem spec_period_l (c : Nat) (hc : c ≤ 6) (own : Bool) (f : Nat) (hf : f < 2 ^ c) (h0 : f ≠ 0) : ∀ n i k, i + 1 + n = per c own f → n < k → spec_RowPeriod.l0 k (c : Int) own (f : Int) ((cr c own 0 f i).1 : Nat) ((cr c own 0 f i).2 : Nat) ((i + 1 : Nat) : Int) = some (((per c own f : Nat) : Int), true) := by
  obtain ⟨p1, p2, p3, p4⟩ := per_is c hc own f hf h0
  have hp : (2 : Nat) ^ c ≤ 2 ^ 6 := Nat.pow_le_pow_right (by decide) hc
  intro n
  induction n with
  | zero =>
    intro i k hi hk
    obtain ⟨k, rfl⟩ : ∃ m, k = m + 1 := ⟨k - 1, by omega⟩
    obtain ⟨b1, b2⟩ := cr_lt own 0 hf i
    have b3 := tog_lt own b2
    have e := p3
    rw [← hi, Nat.add_zero, cr_step, Prod.mk.injEq] at e
    rw [spec_RowPeriod.l0, csToggles_f c (by omega) own _ b2]
    simp only [bs]
    rw [xorn _ _ (by omega) (by omega), e.2, if_pos (by rw [e.1]; rfl), if_pos rfl, show i + 1 = per c own f by omega]
  | succ n ih =>
    intro i k hi hk
    obtain ⟨k, rfl⟩ : ∃ m, k = m + 1 := ⟨k - 1, by omega⟩
    obtain ⟨b1, b2⟩ := cr_lt own 0 hf i
    have b3 := tog_lt own b2
    have e := ih (i + 1) k (by omega) (by omega)
    have hn := p4 (i + 1) (by omega) (by omega)
    rw [cr_step] at e hn
    rw [spec_RowPeriod.l0, csToggles_f c (by omega) own _ b2]
    simp only [bs]
    rw [xorn _ _ (by omega) (by omega), show ((i + 1 : Nat) : Int) + 1 = ((i + 1 + 1 : Nat) : Int) from rfl, wrapn _ (by omega)]
    by_cases h1 : (((cr c own 0 f i).2 : Nat) : Int) = 0
    · by_cases h2 : (((tog c own (cr c own 0 f i).2 ^^^ (cr c own 0 f i).1 : Nat)) : Int) = (f : Int)
      · exact absurd ⟨by show (cr c own 0 f i).2 = 0; omega, by show tog c own (cr c own 0 f i).2 ^^^ (cr c own 0 f i).1 = f; omega⟩ hn
      · rw [if_pos h1, if_neg h2]; exact e
    · rw [if_neg h1]; exact e

end Go.Proofs.Ytadjapdaepkfhaa.LemFnExactRowPeriod
