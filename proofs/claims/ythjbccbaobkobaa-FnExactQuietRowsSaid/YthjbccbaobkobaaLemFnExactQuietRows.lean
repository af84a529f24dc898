/- Lemmas on the printed functions of FnExactQuietRows: what loops and calls come to, at natural numbers in range. -/
import Derived.Test.YthjbccbaobkobaaPFnExactQuietRowsx
import Derived.Test.YthjbccbaobkobaaBit
import Derived.Test.YthjbccbaobkobaaRow
namespace Go.Proofs.Ythjbccbaobkobaa.LemFnExactQuietRows
open Go.RowKit Go.Proofs.Ythjbccbaobkobaa.PFnExactQuietRows Go.Proofs.YthjbccbaobkobaaW.PrintWords Go.Proofs.YthjbccbaobkobaaW.PrintLast Go.Proofs.Ythjbccbaobkobaa.Bit Go.Proofs.Ythjbccbaobkobaa.Row Go.Proofs.Ythjbccbaobkobaa.Lin

theorem eqIntS_l (l : List Int) (hl : l.length < 2 ^ 62) : ∀ n i k, i + n = l.length → n < k → laws_eqIntS.l0 k l l (i : Int) = some true := by
  intro n
  induction n with
  | zero =>
    intro i k hi hk
    obtain ⟨k, rfl⟩ : ∃ m, k = m + 1 := ⟨k - 1, by omega⟩
    rw [laws_eqIntS.l0, if_neg (by omega)]
  | succ n ih =>
    intro i k hi hk
    obtain ⟨k, rfl⟩ : ∃ m, k = m + 1 := ⟨k - 1, by omega⟩
    rw [laws_eqIntS.l0, if_pos (by omega), if_pos (by omega), if_pos (by omega), if_pos rfl, show ((i : Int) + 1) = ((i + 1 : Nat) : Int) from rfl, wrapn _ (by omega)]
    exact ih (i + 1) k (by omega) (by omega)
/-- A list is equal to itself. -/
theorem eqIntS_self (l : List Int) (hl : l.length < 2 ^ 62) (k : Nat) (hk : l.length < k) : laws_eqIntS.f k l l = some true := by
  unfold laws_eqIntS.f
  rw [if_pos rfl]
  exact eqIntS_l l hl l.length 0 k (by omega) hk
/-- 1, 2, .., n. -/
def marks (n : Nat) : List Int := (List.range n).map fun i => ((i + 1 : Nat) : Int)
theorem marks_length (n : Nat) : (marks n).length = n := by simp [marks]
theorem marks_succ (n : Nat) : marks (n + 1) = marks n ++ [((n + 1 : Nat) : Int)] := by simp [marks, List.range_succ]
theorem marks_rd (n i : Nat) (h : i < n) : rd (marks n) (i : Int) = ((i + 1 : Nat) : Int) := by
  unfold rd marks
  rw [Int.toNat_natCast, List.getD_eq_getElem?_getD, List.getElem?_map, List.getElem?_range h]; rfl
theorem mark_set (l : List Int) (i : Nat) (h : i < l.length) : (marks i ++ l.drop i).set i ((i + 1 : Nat) : Int) = marks (i + 1) ++ l.drop (i + 1) := by
  rw [List.set_append_right _ _ (by rw [marks_length]; omega), marks_length, Nat.sub_self, List.drop_eq_getElem_cons h, List.set_cons_zero, marks_succ, List.append_assoc]; rfl
theorem mark_l (l : List Int) (hl : l.length < 2 ^ 62) : ∀ n i k, i + n = l.length → n < k → laws_markIntS.l0 k (marks i ++ l.drop i) ((i + 1 : Nat) : Int) (i : Int) = some (((l.length + 1 : Nat) : Int), marks l.length) := by
  intro n
  induction n with
  | zero =>
    intro i k hi hk
    obtain ⟨k, rfl⟩ : ∃ m, k = m + 1 := ⟨k - 1, by omega⟩
    obtain rfl : i = l.length := by omega
    rw [laws_markIntS.l0, if_neg (by simp [marks_length]), List.drop_length, List.append_nil]
  | succ n ih =>
    intro i k hi hk
    obtain ⟨k, rfl⟩ : ∃ m, k = m + 1 := ⟨k - 1, by omega⟩
    rw [laws_markIntS.l0, if_pos (by simp [marks_length]; omega), if_pos (by omega), Int.toNat_natCast, mark_set l i (by omega), show ((i + 1 : Nat) : Int) + 1 = ((i + 1 + 1 : Nat) : Int) from rfl, show ((i : Int) + 1) = ((i + 1 : Nat) : Int) from rfl, wrapn _ (by omega), wrapn _ (by omega)]
    exact ih (i + 1) k (by omega) (by omega)
theorem mark_any (l : List Int) (hl : l.length < 2 ^ 62) (k : Nat) (hk : l.length < k) : laws_markIntS.f k l 1 = some (((l.length + 1 : Nat) : Int), marks l.length) := by
  have := mark_l l hl l.length 0 k (by omega) hk
  unfold laws_markIntS.f
  simpa [marks] using this
theorem held_l (m : Nat) (hm : m < 2 ^ 62) : ∀ n i k, i + n = m → n < k → laws_heldIntS.l0 k (marks m) ((i + 1 : Nat) : Int) (i : Int) = some ((m + 1 : Nat) : Int) := by
  intro n
  induction n with
  | zero =>
    intro i k hi hk
    obtain ⟨k, rfl⟩ : ∃ m, k = m + 1 := ⟨k - 1, by omega⟩
    obtain rfl : i = m := by omega
    rw [laws_heldIntS.l0, if_neg (by rw [marks_length]; omega)]
  | succ n ih =>
    intro i k hi hk
    obtain ⟨k, rfl⟩ : ∃ m, k = m + 1 := ⟨k - 1, by omega⟩
    rw [laws_heldIntS.l0, if_pos (by rw [marks_length]; omega), if_pos (by omega), if_pos (marks_rd m i (by omega)), show ((i + 1 : Nat) : Int) + 1 = ((i + 1 + 1 : Nat) : Int) from rfl, show ((i : Int) + 1) = ((i + 1 : Nat) : Int) from rfl, wrapn _ (by omega), wrapn _ (by omega)]
    exact ih (i + 1) k (by omega) (by omega)
theorem held_any (m : Nat) (hm : m < 2 ^ 62) (k : Nat) (hk : m < k) : laws_heldIntS.f k (marks m) 1 = some ((m + 1 : Nat) : Int) :=
  held_l m hm m 0 k (by omega) hk
theorem whole_f (c : Nat) (h : c < 63) : impl_whole.f (c : Int) = some ((2 ^ c - 1 : Nat) : Int) := by
  unfold impl_whole.f
  rw [if_pos (Int.natCast_nonneg _), wholen c h]
theorem in_f (a b c : Int) : impl_in.f a b c = some (decide (b ≤ a ∧ a ≤ c)) := by
  unfold impl_in.f
  split
  · rename_i h; simp [h]
  · rename_i h; simp [h]
theorem l1In_f (a b c : Int) : spec_l1In.f a b c = some (decide (b ≤ a ∧ a ≤ c)) := by
  unfold spec_l1In.f
  split
  · rename_i h; simp [show b ≤ a from h]
  · rename_i h; simp [show ¬ b ≤ a from h]
theorem csToggles_f (c : Nat) (hc : c ≤ 16) (own : Bool) (row : Nat) (h : row < 2 ^ c) : spec_csToggles.f (c : Int) own (row : Int) = some ((tog c own row : Nat) : Int) := by
  have hp : (2 : Nat) ^ c ≤ 2 ^ 16 := Nat.pow_le_pow_right (by decide) hc
  have h1 : row < 2 ^ 16 := by omega
  have h2 : row * 2 ^^^ row / 2 < 2 ^ 63 := Nat.xor_lt_two_pow (by omega) (by omega)
  have h3 : row * 2 ^^^ row / 2 ^^^ row < 2 ^ 63 := Nat.xor_lt_two_pow h2 (by omega)
  have h4 := wholen c (by omega)
  unfold spec_csToggles.f
  rw [if_pos (Int.natCast_nonneg _), if_pos (Int.natCast_nonneg _), h4, twice row (by omega), half, xorn _ _ (by omega) (by omega), xorn _ _ h2 (by omega), andn _ _ h3 (by omega), andn _ _ h2 (by omega), tog_own h, tog_not]
  cases own <;> rfl
theorem rowToggles_f (c : Nat) (hc : c ≤ 16) (own : Bool) (row : Nat) (h : row < 2 ^ c) : impl_rowToggles.f (c : Int) own (row : Int) = some ((tog c own row : Nat) : Int) := by
  have hp : (2 : Nat) ^ c ≤ 2 ^ 16 := Nat.pow_le_pow_right (by decide) hc
  have h1 : row < 2 ^ 16 := by omega
  have h2 : row * 2 ^^^ row / 2 < 2 ^ 63 := Nat.xor_lt_two_pow (by omega) (by omega)
  have h3 : (row * 2 ^^^ row / 2) &&& (2 ^ c - 1) < 2 ^ 63 := Nat.lt_of_lt_of_le (mask_lt _ _) (by omega)
  unfold impl_rowToggles.f
  rw [whole_f c (by omega), twice row (by omega), half, xorn _ _ (by omega) (by omega)]
  simp only [bs]
  rw [andn _ _ h2 (by omega), xorn _ _ h3 (by omega)]
  unfold tog
  cases own <;> simp
theorem csWide_f (c row : Int) : spec_csWide.f c row = some (decide (1 ≤ c ∧ c ≤ 8) && decide (0 ≤ row ∧ row ≤ ((2 ^ c.toNat - 1 : Nat) : Int))) := by
  unfold spec_csWide.f
  rw [l1In_f]
  simp only [bs]
  by_cases h : 1 ≤ c ∧ c ≤ 8
  · obtain ⟨c, rfl⟩ := Int.eq_ofNat_of_zero_le (show 0 ≤ c by omega)
    rw [decide_eq_true h, if_pos rfl, if_pos (by omega), wholen c (by omega), l1In_f, Int.toNat_natCast, Bool.true_and]; rfl
  · rw [decide_eq_false h, if_neg (by decide), Bool.false_and]
theorem isWide_one (c row : Int) : impl_isWide.f c [row] = some (decide (1 ≤ c ∧ c ≤ 8) && decide (0 ≤ row ∧ row ≤ ((2 ^ c.toNat - 1 : Nat) : Int))) := by
  unfold impl_isWide.f noRow
  simp [List.any]
theorem isWide_none (c : Int) : impl_isWide.f c [] = some (decide (1 ≤ c ∧ c ≤ 8)) := by
  unfold impl_isWide.f
  simp
theorem cr_next (c : Nat) (own : Bool) (f i : Nat) : cr c own 0 f (i + 1) = ((cr c own 0 f i).2, tog c own (cr c own 0 f i).2 ^^^ (cr c own 0 f i).1) := by
  rw [cr]
  unfold rowOf
  rw [Nat.zero_div, Nat.zero_and, Nat.zero_xor, Nat.xor_comm]
theorem csBehind_l (c : Nat) (hc : c ≤ 16) (own : Bool) (f : Nat) (hf : f < 2 ^ c) : ∀ n i k, n < k → n < 2 ^ 40 → spec_csBehind.l0 k (c : Int) own (n : Int) ((cr c own 0 f i).1 : Nat) ((cr c own 0 f i).2 : Nat) = some (((cr c own 0 f (i + n)).2 : Nat) : Int) := by
  have hp : (2 : Nat) ^ c ≤ 2 ^ 16 := Nat.pow_le_pow_right (by decide) hc
  intro n
  induction n with
  | zero =>
    intro i k hk _
    obtain ⟨k, rfl⟩ : ∃ m, k = m + 1 := ⟨k - 1, by omega⟩
    rw [spec_csBehind.l0, if_neg (by omega)]; rfl
  | succ n ih =>
    intro i k hk hn
    obtain ⟨k, rfl⟩ : ∃ m, k = m + 1 := ⟨k - 1, by omega⟩
    obtain ⟨b1, b2⟩ := cr_lt own 0 hf i
    have b3 := tog_lt own b2
    have e := ih (i + 1) k (by omega) (by omega)
    rw [spec_csBehind.l0, if_pos (by omega), csToggles_f c hc own _ b2]
    simp only [bs]
    rw [xorn _ _ (by omega) (by omega), show ((n + 1 : Nat) : Int) - 1 = ((n : Nat) : Int) by omega, wrapn n (by omega)]
    rw [cr_next] at e
    rw [e, show i + 1 + n = i + (n + 1) by omega]
theorem csBehind_f (c : Nat) (hc : c ≤ 16) (own : Bool) (f : Nat) (hf : f < 2 ^ c) (n k : Nat) (hk : n < k) (hn : n < 2 ^ 40) : spec_csBehind.f k (c : Int) own (f : Int) (n : Int) = some (((cr c own 0 f n).2 : Nat) : Int) := by
  unfold spec_csBehind.f
  have := csBehind_l c hc own f hf n 0 k hk hn
  rwa [Nat.zero_add] at this

end Go.Proofs.Ythjbccbaobkobaa.LemFnExactQuietRows
