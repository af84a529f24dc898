/- Lemmas on the printed functions of FnExactDividePoly: what loops and calls come to, at natural numbers in range. -/
import Derived.Test.YtadjapdaepkfhaaPFnExactDividePolyx
import Derived.Test.YtadjapdaepkfhaaBit
import Derived.Test.YtadjapdaepkfhaaPol
import Derived.Test.YtadjapdaepkfhaaRow
namespace Go.Proofs.Ytadjapdaepkfhaa.LemFnExactDividePoly
open Go.RowKit Go.Proofs.Ytadjapdaepkfhaa.PFnExactDividePoly Go.Proofs.YtadjapdaepkfhaaW.PrintWords Go.Proofs.YtadjapdaepkfhaaW.PrintLast Go.Proofs.Ytadjapdaepkfhaa.Bit Go.Proofs.Ytadjapdaepkfhaa.Row Go.Proofs.Ytadjapdaepkfhaa.Lin Go.Proofs.Ytadjapdaepkfhaa.Gra Go.Proofs.Ytadjapdaepkfhaa.Pol

theorem whole_f (c : Nat) (h : c < 63) : impl_whole.f (c : Int) = some ((2 ^ c - 1 : Nat) : Int) := by
  unfold impl_whole.f
  rw [if_pos (Int.natCast_nonneg _), wholen c h]
theorem in_f (a b c : Int) : impl_in.f a b c = some (decide (b ≤ a ∧ a ≤ c)) := by
  unfold impl_in.f
  split
  · rename_i h; simp [h]
  · rename_i h; simp [h]
theorem l1In_f (a b c : Int) : spec_l1In.f a b c = some (decide (b ≤ a ∧ a ≤ c)) := by
  unfold spec_l1In.f
  split
  · rename_i h; simp [show b ≤ a from h]
  · rename_i h; simp [show ¬ b ≤ a from h]
theorem grIn_f (x i : Nat) (hx : x < 2 ^ 63) : spec_grIn.f (x : Int) (i : Int) = some (x.testBit i) := by
  unfold spec_grIn.f
  rw [if_pos (Int.natCast_nonneg _), shrn x i hx, Nat.testBit_eq_decide_div_mod_eq]
  congr 1
  have e : Int.tmod ((x / 2 ^ i : Nat) : Int) 2 = ((x / 2 ^ i % 2 : Nat) : Int) := rfl
  rw [e]
  rcases Nat.mod_two_eq_zero_or_one (x / 2 ^ i) with h | h <;> rw [h] <;> rfl
theorem soTop_l : ∀ (d n : Nat) (t : Int) (k : Nat), n < 2 ^ d → d < k → d ≤ 62 → -1 ≤ t → t + (d : Int) ≤ 1000 → spec_soTop.l0 k (n : Int) t = some (t + (topI n + 1)) := by
  intro d
  induction d with
  | zero =>
    intro n t k hn hk _ _ _
    obtain ⟨k, rfl⟩ : ∃ m, k = m + 1 := ⟨k - 1, by omega⟩
    obtain rfl : n = 0 := by simpa using hn
    rw [spec_soTop.l0, if_neg (by omega)]
    unfold topI
    rw [if_pos rfl]
    congr 1; omega
  | succ d ih =>
    intro n t k hn hk hd h0 h1
    obtain ⟨k, rfl⟩ : ∃ m, k = m + 1 := ⟨k - 1, by omega⟩
    have hp : (2 : Nat) ^ (d + 1) ≤ 2 ^ 62 := Nat.pow_le_pow_right (by decide) hd
    by_cases hz : n = 0
    · subst hz
      rw [spec_soTop.l0, if_neg (by omega)]
      unfold topI
      rw [if_pos rfl]
      congr 1; omega
    · rw [spec_soTop.l0, if_pos (by omega), show Int.tdiv (n : Int) 2 = ((n / 2 : Nat) : Int) from rfl, wrapn _ (by omega), wrapi (n := t + 1) (by omega) (by omega), ih (n / 2) (t + 1) k (by rw [Nat.pow_succ] at hn; omega) (by omega) (by omega) (by omega) (by omega)]
      congr 1
      unfold topI
      rw [if_neg hz]
      by_cases h2 : n / 2 = 0
      · rw [if_pos h2]
        have : n = 1 := by omega
        subst this
        rw [show Nat.log2 1 = 0 from rfl]; omega
      · have : n.log2 = (n / 2).log2 + 1 := by rw [Nat.log2_def, if_pos (by omega)]
        rw [if_neg h2, this]; omega
theorem soTop_f (n : Nat) (h : n < 2 ^ 62) (k : Nat) (hk : 62 < k) : spec_soTop.f k (n : Int) = some (topI n) := by
  unfold spec_soTop.f
  rw [soTop_l 62 n (-1) k h hk (by omega) (by omega) (by omega)]
  congr 1; omega
theorem poDegree_f (n : Nat) (h : n < 2 ^ 62) (k : Nat) (hk : 62 < k) : spec_poDegree.f k (n : Int) = some (topI n) := by
  unfold spec_poDegree.f
  rw [soTop_f n h k hk]; rfl
theorem poGood_f (p : Int) : spec_poGood.f p = some (decide (0 ≤ p ∧ p ≤ 2199023255551)) := by
  unfold spec_poGood.f
  rw [l1In_f]; rfl
theorem isPoly_one (p : Int) : impl_isPoly.f [p] = some (decide (0 ≤ p ∧ p ≤ 2199023255551)) := by
  unfold impl_isPoly.f noPoly
  simp [List.any]
theorem isPoly_two (p q : Int) : impl_isPoly.f [p, q] = some (decide (0 ≤ p ∧ p ≤ 2199023255551) && decide (0 ≤ q ∧ q ≤ 2199023255551)) := by
  unfold impl_isPoly.f noPoly
  simp [List.any]
theorem degree_f (n : Nat) (h : n < 2 ^ 62) : impl_degree.f (n : Int) = some (topI n) := by
  unfold impl_degree.f impl_top.f two62
  rw [if_pos (Int.natCast_nonneg _), if_pos (by omega), Int.toNat_natCast]; rfl
theorem spec_div_l (q d : Nat) (hq : q < 2 ^ (d + 1)) (hqb : q.testBit d = true) (hd : d ≤ 40) : ∀ (n p o k : Nat), p < 2 ^ 41 → n + d ≤ 41 → o < 2 ^ 42 → n + 63 < k → spec_poDivide.l0 k (p : Int) (q : Int) (o : Int) ((n : Int) - 1) = some ((((dv q d n p o).1 : Nat) : Int), (((dv q d n p o).2 : Nat) : Int)) := by
  have hq41 : (2 : Nat) ^ (d + 1) ≤ 2 ^ 41 := Nat.pow_le_pow_right (by decide) (by omega)
  intro n
  induction n with
  | zero =>
    intro p o k _ _ _ hk
    obtain ⟨k, rfl⟩ : ∃ m, k = m + 1 := ⟨k - 1, by omega⟩
    rw [spec_poDivide.l0, if_neg (by omega)]; rfl
  | succ n ih =>
    intro p o k hp hn ho hk
    obtain ⟨k, rfl⟩ : ∃ m, k = m + 1 := ⟨k - 1, by omega⟩
    have hs : q * 2 ^ n < 2 ^ (d + 1 + n) := by rw [Nat.pow_add]; exact Nat.mul_lt_mul_of_pos_right hq (Nat.two_pow_pos n)
    have hs2 : (2 : Nat) ^ (d + 1 + n) ≤ 2 ^ 41 := Nat.pow_le_pow_right (by decide) (by omega)
    have hn2 : (2 : Nat) ^ n < 2 ^ 42 := Nat.pow_lt_pow_right (by decide) (by omega)
    rw [spec_poDivide.l0, if_pos (by omega), poDegree_f q (by omega) k (by omega), topI_top hq hqb]
    simp only [bs]
    rw [show ((n + 1 : Nat) : Int) - 1 = ((n : Nat) : Int) by omega, ← Int.natCast_add, wrapn (n + d) (by omega), grIn_f p _ (by omega)]
    simp only [bs]
    rw [show wrap64 (((n : Nat) : Int) - 1) = (n : Int) - 1 from by unfold wrap64; omega]
    by_cases hb : p.testBit (n + d) = true
    · rw [if_pos hb, if_pos (Int.natCast_nonneg _), shln q n (by omega) (by omega), xorn _ _ (by omega) (by omega), shl1 n (by omega), orn _ _ (by omega) (by omega), ih _ _ k (Nat.xor_lt_two_pow hp (by omega)) (by omega) (Nat.or_lt_two_pow ho hn2) (by omega)]
      have e2 : dv q d (n + 1) p o = dv q d n (p ^^^ q * 2 ^ n) (o ||| 2 ^ n) := by rw [dv, if_pos hb]
      rw [e2]
    · rw [if_neg hb, ih _ _ k hp (by omega) ho (by omega)]
      have e2 : dv q d (n + 1) p o = dv q d n p o := by rw [dv, if_neg hb]
      rw [e2]
theorem impl_div_l (q d : Nat) (hq : q < 2 ^ (d + 1)) (hqb : q.testBit d = true) (hd : d ≤ 40) : ∀ (n p o k : Nat), p < 2 ^ (n + d) → n + d ≤ 41 → o < 2 ^ 42 → n < k → impl_divide.l0 k (p : Int) (q : Int) (o : Int) = some ((((dv q d n p o).1 : Nat) : Int), (((dv q d n p o).2 : Nat) : Int)) := by
  have hq41 : (2 : Nat) ^ (d + 1) ≤ 2 ^ 41 := Nat.pow_le_pow_right (by decide) (by omega)
  intro n
  induction n with
  | zero =>
    intro p o k hp _ _ hk
    obtain ⟨k, rfl⟩ : ∃ m, k = m + 1 := ⟨k - 1, by omega⟩
    rw [Nat.zero_add] at hp
    have ht := topI_lt hp
    have hp41 : (2 : Nat) ^ d ≤ 2 ^ 40 := Nat.pow_le_pow_right (by decide) hd
    rw [impl_divide.l0, degree_f p (by omega), degree_f q (by omega), topI_top hq hqb]
    simp only [bs]
    rw [if_neg (by omega)]; rfl
  | succ n ih =>
    intro p o k hp hn ho hk
    have hs : q * 2 ^ n < 2 ^ (d + 1 + n) := by rw [Nat.pow_add]; exact Nat.mul_lt_mul_of_pos_right hq (Nat.two_pow_pos n)
    have hs2 : (2 : Nat) ^ (d + 1 + n) ≤ 2 ^ 41 := Nat.pow_le_pow_right (by decide) (by omega)
    have hn2 : (2 : Nat) ^ n < 2 ^ 42 := Nat.pow_lt_pow_right (by decide) (by omega)
    have hp' : p < 2 ^ (n + d + 1) := by rw [show n + d + 1 = n + 1 + d by omega]; exact hp
    have hp41 : (2 : Nat) ^ (n + d + 1) ≤ 2 ^ 41 := Nat.pow_le_pow_right (by decide) (by omega)
    by_cases hb : p.testBit (n + d) = true
    · obtain ⟨k, rfl⟩ : ∃ m, k = m + 1 := ⟨k - 1, by omega⟩
      rw [impl_divide.l0, degree_f p (by omega), degree_f q (by omega), topI_top hq hqb, topI_top hp' hb]
      simp only [bs]
      rw [if_pos (by omega), show ((n + d : Nat) : Int) - (d : Int) = ((n : Nat) : Int) by omega, wrapn n (by omega), if_pos (Int.natCast_nonneg _), shln q n (by omega) (by omega), xorn _ _ (by omega) (by omega), shl1 n (by omega), orn _ _ (by omega) (by omega), ih _ _ k (step_lt hp' hb hq hqb) (by omega) (Nat.or_lt_two_pow ho hn2) (by omega)]
      have e2 : dv q d (n + 1) p o = dv q d n (p ^^^ q * 2 ^ n) (o ||| 2 ^ n) := by rw [dv, if_pos hb]
      rw [e2]
    · have hp2 := lt_of_not_bit hp' (by simpa using hb)
      rw [ih p o k hp2 (by omega) ho (by omega)]
      have e2 : dv q d (n + 1) p o = dv q d n p o := by rw [dv, if_neg hb]
      rw [e2]

end Go.Proofs.Ytadjapdaepkfhaa.LemFnExactDividePoly
