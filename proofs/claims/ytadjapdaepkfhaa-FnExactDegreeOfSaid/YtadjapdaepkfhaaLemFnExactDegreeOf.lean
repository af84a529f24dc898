/- Lemmas on the printed functions of FnExactDegreeOf: what loops and calls come to, at natural numbers in range. -/
import Derived.Test.YtadjapdaepkfhaaPFnExactDegreeOfx
import Derived.Test.YtadjapdaepkfhaaBit
import Derived.Test.YtadjapdaepkfhaaGra
import Derived.Test.YtadjapdaepkfhaaRow
namespace Go.Proofs.Ytadjapdaepkfhaa.LemFnExactDegreeOf
open Go.RowKit Go.Proofs.Ytadjapdaepkfhaa.PFnExactDegreeOf Go.Proofs.YtadjapdaepkfhaaW.PrintWords Go.Proofs.YtadjapdaepkfhaaW.PrintLast Go.Proofs.Ytadjapdaepkfhaa.Bit Go.Proofs.Ytadjapdaepkfhaa.Row Go.Proofs.Ytadjapdaepkfhaa.Lin Go.Proofs.Ytadjapdaepkfhaa.Gra

theorem whole_f (c : Nat) (h : c < 63) : impl_whole.f (c : Int) = some ((2 ^ c - 1 : Nat) : Int) := by
  unfold impl_whole.f
  rw [if_pos (Int.natCast_nonneg _), wholen c h]
theorem in_f (a b c : Int) : impl_in.f a b c = some (decide (b ≤ a ∧ a ≤ c)) := by
  unfold impl_in.f
  split
  · rename_i h; simp [h]
  · rename_i h; simp [h]
theorem l1In_f (a b c : Int) : spec_l1In.f a b c = some (decide (b ≤ a ∧ a ≤ c)) := by
  unfold spec_l1In.f
  split
  · rename_i h; simp [show b ≤ a from h]
  · rename_i h; simp [show ¬ b ≤ a from h]
theorem soTop_l : ∀ (d n : Nat) (t : Int) (k : Nat), n < 2 ^ d → d < k → d ≤ 62 → -1 ≤ t → t + (d : Int) ≤ 1000 → spec_soTop.l0 k (n : Int) t = some (t + (topI n + 1)) := by
  intro d
  induction d with
  | zero =>
    intro n t k hn hk _ _ _
    obtain ⟨k, rfl⟩ : ∃ m, k = m + 1 := ⟨k - 1, by omega⟩
    obtain rfl : n = 0 := by simpa using hn
    rw [spec_soTop.l0, if_neg (by omega)]
    unfold topI
    rw [if_pos rfl]
    congr 1; omega
  | succ d ih =>
    intro n t k hn hk hd h0 h1
    obtain ⟨k, rfl⟩ : ∃ m, k = m + 1 := ⟨k - 1, by omega⟩
    have hp : (2 : Nat) ^ (d + 1) ≤ 2 ^ 62 := Nat.pow_le_pow_right (by decide) hd
    by_cases hz : n = 0
    · subst hz
      rw [spec_soTop.l0, if_neg (by omega)]
      unfold topI
      rw [if_pos rfl]
      congr 1; omega
    · rw [spec_soTop.l0, if_pos (by omega), show Int.tdiv (n : Int) 2 = ((n / 2 : Nat) : Int) from rfl, wrapn _ (by omega), wrapi (n := t + 1) (by omega) (by omega), ih (n / 2) (t + 1) k (by rw [Nat.pow_succ] at hn; omega) (by omega) (by omega) (by omega) (by omega)]
      congr 1
      unfold topI
      rw [if_neg hz]
      by_cases h2 : n / 2 = 0
      · rw [if_pos h2]
        have : n = 1 := by omega
        subst this
        rw [show Nat.log2 1 = 0 from rfl]; omega
      · have : n.log2 = (n / 2).log2 + 1 := by rw [Nat.log2_def, if_pos (by omega)]
        rw [if_neg h2, this]; omega
theorem soTop_f (n : Nat) (h : n < 2 ^ 62) (k : Nat) (hk : 62 < k) : spec_soTop.f k (n : Int) = some (topI n) := by
  unfold spec_soTop.f
  rw [soTop_l 62 n (-1) k h hk (by omega) (by omega) (by omega)]
  congr 1; omega
theorem poDegree_f (n : Nat) (h : n < 2 ^ 62) (k : Nat) (hk : 62 < k) : spec_poDegree.f k (n : Int) = some (topI n) := by
  unfold spec_poDegree.f
  rw [soTop_f n h k hk]; rfl
theorem poGood_f (p : Int) : spec_poGood.f p = some (decide (0 ≤ p ∧ p ≤ 2199023255551)) := by
  unfold spec_poGood.f
  rw [l1In_f]; rfl
theorem isPoly_one (p : Int) : impl_isPoly.f [p] = some (decide (0 ≤ p ∧ p ≤ 2199023255551)) := by
  unfold impl_isPoly.f noPoly
  simp [List.any]
theorem isPoly_two (p q : Int) : impl_isPoly.f [p, q] = some (decide (0 ≤ p ∧ p ≤ 2199023255551) && decide (0 ≤ q ∧ q ≤ 2199023255551)) := by
  unfold impl_isPoly.f noPoly
  simp [List.any]
theorem degree_f (n : Nat) (h : n < 2 ^ 62) : impl_degree.f (n : Int) = some (topI n) := by
  unfold impl_degree.f impl_top.f two62
  rw [if_pos (Int.natCast_nonneg _), if_pos (by omega), Int.toNat_natCast]; rfl

end Go.Proofs.Ytadjapdaepkfhaa.LemFnExactDegreeOf
