/- Lemmas on the printed functions of FnExactChasePresses: what loops and calls come to, at natural numbers in range. -/
import Derived.Test.YtadjapdaepkfhaaPFnExactChasePressesx
import Derived.Test.YtadjapdaepkfhaaBit
import Derived.Test.YtadjapdaepkfhaaRow
namespace Go.Proofs.Ytadjapdaepkfhaa.LemFnExactChasePresses
open Go.RowKit Go.Proofs.Ytadjapdaepkfhaa.PFnExactChasePresses Go.Proofs.YtadjapdaepkfhaaW.PrintWords Go.Proofs.YtadjapdaepkfhaaW.PrintLast Go.Proofs.Ytadjapdaepkfhaa.Bit Go.Proofs.Ytadjapdaepkfhaa.Row Go.Proofs.Ytadjapdaepkfhaa.Lin

theorem prod_i {lo r c : Int} (h0 : 0 ≤ lo) (hr : lo ≤ r ∧ r ≤ 16) (hc : lo ≤ c ∧ c ≤ 16) : wrap64 (r * c) = r * c := by
  have h1 : 0 ≤ r * c := Int.mul_nonneg (by omega) (by omega)
  have h2 : r * c ≤ 16 * 16 := Int.mul_le_mul hr.2 hc.2 (by omega) (by omega)
  unfold wrap64
  omega
theorem sides_no {lo r c : Int} (h0 : 0 ≤ lo) (h : ¬ ((lo ≤ r ∧ r ≤ 16) ∧ (lo ≤ c ∧ c ≤ 16) ∧ r * c ≤ 16)) : spec_grSides.f r c lo = some false ∧ impl_isGrid.f r c lo = some false := by
  unfold spec_grSides.f spec_l1In.f impl_isGrid.f impl_in.f
  simp only [ge_iff_le]
  by_cases h1 : lo ≤ r ∧ r ≤ 16
  · rw [if_pos h1.1, decide_eq_true h1.2]
    simp only [bs, if_true]
    by_cases h2 : lo ≤ c ∧ c ≤ 16
    · rw [if_pos h2.1, decide_eq_true h2.2, prod_i h0 h1 h2]
      have h3 : ¬ r * c ≤ 16 := fun h3 => h ⟨h1, h2, h3⟩
      rw [decide_eq_false h3]
      exact ⟨rfl, rfl⟩
    · by_cases h3 : lo ≤ c
      · have h4 : ¬ c ≤ 16 := by omega
        rw [if_pos h3, decide_eq_false h4]; exact ⟨rfl, rfl⟩
      · rw [if_neg h3]; exact ⟨rfl, rfl⟩
  · by_cases h3 : lo ≤ r
    · have h4 : ¬ r ≤ 16 := by omega
      rw [if_pos h3, decide_eq_false h4]; exact ⟨rfl, rfl⟩
    · rw [if_neg h3]; exact ⟨rfl, rfl⟩
theorem sides_yes {lo r c : Int} (h0 : 0 ≤ lo) (h : (lo ≤ r ∧ r ≤ 16) ∧ (lo ≤ c ∧ c ≤ 16) ∧ r * c ≤ 16) : spec_grSides.f r c lo = some true ∧ impl_isGrid.f r c lo = some true := by
  obtain ⟨h1, h2, h3⟩ := h
  unfold spec_grSides.f spec_l1In.f impl_isGrid.f impl_in.f
  simp only [ge_iff_le]
  rw [if_pos h1.1, decide_eq_true h1.2, if_pos h2.1, decide_eq_true h2.2, prod_i h0 h1 h2, decide_eq_true h3]
  exact ⟨rfl, rfl⟩
theorem whole_f (c : Nat) (h : c < 63) : impl_whole.f (c : Int) = some ((2 ^ c - 1 : Nat) : Int) := by
  unfold impl_whole.f
  rw [if_pos (Int.natCast_nonneg _), wholen c h]
theorem in_f (a b c : Int) : impl_in.f a b c = some (decide (b ≤ a ∧ a ≤ c)) := by
  unfold impl_in.f
  split
  · rename_i h; simp [h]
  · rename_i h; simp [h]
theorem l1In_f (a b c : Int) : spec_l1In.f a b c = some (decide (b ≤ a ∧ a ≤ c)) := by
  unfold spec_l1In.f
  split
  · rename_i h; simp [show b ≤ a from h]
  · rename_i h; simp [show ¬ b ≤ a from h]
theorem csToggles_f (c : Nat) (hc : c ≤ 16) (own : Bool) (row : Nat) (h : row < 2 ^ c) : spec_csToggles.f (c : Int) own (row : Int) = some ((tog c own row : Nat) : Int) := by
  have hp : (2 : Nat) ^ c ≤ 2 ^ 16 := Nat.pow_le_pow_right (by decide) hc
  have h1 : row < 2 ^ 16 := by omega
  have h2 : row * 2 ^^^ row / 2 < 2 ^ 63 := Nat.xor_lt_two_pow (by omega) (by omega)
  have h3 : row * 2 ^^^ row / 2 ^^^ row < 2 ^ 63 := Nat.xor_lt_two_pow h2 (by omega)
  have h4 := wholen c (by omega)
  unfold spec_csToggles.f
  rw [if_pos (Int.natCast_nonneg _), if_pos (Int.natCast_nonneg _), h4, twice row (by omega), half, xorn _ _ (by omega) (by omega), xorn _ _ h2 (by omega), andn _ _ h3 (by omega), andn _ _ h2 (by omega), tog_own h, tog_not]
  cases own <;> rfl
theorem rowToggles_f (c : Nat) (hc : c ≤ 16) (own : Bool) (row : Nat) (h : row < 2 ^ c) : impl_rowToggles.f (c : Int) own (row : Int) = some ((tog c own row : Nat) : Int) := by
  have hp : (2 : Nat) ^ c ≤ 2 ^ 16 := Nat.pow_le_pow_right (by decide) hc
  have h1 : row < 2 ^ 16 := by omega
  have h2 : row * 2 ^^^ row / 2 < 2 ^ 63 := Nat.xor_lt_two_pow (by omega) (by omega)
  have h3 : (row * 2 ^^^ row / 2) &&& (2 ^ c - 1) < 2 ^ 63 := Nat.lt_of_lt_of_le (mask_lt _ _) (by omega)
  unfold impl_rowToggles.f
  rw [whole_f c (by omega), twice row (by omega), half, xorn _ _ (by omega) (by omega)]
  simp only [bs]
  rw [andn _ _ h2 (by omega), xorn _ _ h3 (by omega)]
  unfold tog
  cases own <;> simp
theorem csRow_f (c L r : Nat) (hc : c ≤ 16) (hr : c * r ≤ 16) (hL : L < 2 ^ 63) : spec_csRow.f (c : Int) (L : Int) (r : Int) = some ((rowOf c L r : Nat) : Int) := by
  have hp : (2 : Nat) ^ c ≤ 2 ^ 16 := Nat.pow_le_pow_right (by decide) hc
  have hd : L / 2 ^ (c * r) < 2 ^ 63 := Nat.lt_of_le_of_lt (Nat.div_le_self _ _) hL
  unfold spec_csRow.f
  rw [← Int.natCast_mul, wrapn _ (by omega), if_pos (Int.natCast_nonneg _), if_pos (Int.natCast_nonneg _), shrn L _ hL, wholen c (by omega), andn _ _ hd (by omega)]
  rfl
theorem csChase_l (rows c : Nat) (own : Bool) (L first : Nat) (hc : c ≤ 16) (hr : c * rows ≤ 16) (hr' : rows ≤ 16) (hL : L < 2 ^ 63) (hf : first < 2 ^ c) : ∀ n r k (left : Int), r + n = rows → n < k → (n = 0 → left = ((cr c own L first rows).2 : Nat)) →
    spec_csChase.l0 k (rows : Int) (c : Int) own (L : Int) (prs c own L first r : Nat) ((cr c own L first r).2 : Nat) ((cr c own L first r).1 : Nat) left (r : Int) = some (((prs c own L first rows : Nat) : Int), (((cr c own L first rows).2 : Nat) : Int)) := by
  intro n
  induction n with
  | zero =>
    intro r k left hn hk hl
    obtain ⟨k, rfl⟩ : ∃ m, k = m + 1 := ⟨k - 1, by omega⟩
    obtain rfl : r = rows := by omega
    rw [spec_csChase.l0, if_neg (by omega), hl rfl]
  | succ n ih =>
    intro r k left hn hk _
    obtain ⟨k, rfl⟩ : ∃ m, k = m + 1 := ⟨k - 1, by omega⟩
    have hp : (2 : Nat) ^ c ≤ 2 ^ 16 := Nat.pow_le_pow_right (by decide) hc
    have hcr : c * (r + 1) ≤ 16 := Nat.le_trans (Nat.mul_le_mul_left _ (by omega)) hr
    have hcr' : c * r ≤ 16 := Nat.le_trans (Nat.mul_le_mul_left _ (by omega)) hr
    obtain ⟨b1, b2⟩ := cr_lt own L hf r
    have b3 := tog_lt own b2
    have b4 : rowOf c L r < 2 ^ c := mask_lt _ _
    have b5 := prs_lt own L hf r
    have b6 := shift_lt (r := r) b2
    have hp1 : (2 : Nat) ^ (c * (r + 1)) ≤ 2 ^ 16 := Nat.pow_le_pow_right (by decide) hcr
    have hp2 : (2 : Nat) ^ (c * r) ≤ 2 ^ 16 := Nat.pow_le_pow_right (by decide) hcr'
    have e := ih (r + 1) k (((cr c own L first (r + 1)).2 : Nat) : Int) (by omega) (by omega) (fun h => by rw [show r + 1 = rows by omega])
    rw [spec_csChase.l0, if_pos (by omega), ← Int.natCast_mul, wrapn (c * r) (by omega), if_pos (Int.natCast_nonneg _), csRow_f c L r hc hcr' hL, csToggles_f c hc own _ b2]
    simp only [bs]
    have x1 : rowOf c L r ^^^ tog c own (cr c own L first r).2 < 2 ^ 63 := Nat.xor_lt_two_pow (by omega) (by omega)
    rw [xorn _ _ (by omega) (by omega), xorn _ _ x1 (by omega), shln _ _ (by omega) (by omega), orn _ _ (by omega) (by omega), show ((r : Int) + 1) = ((r + 1 : Nat) : Int) from rfl, wrapn _ (by omega), x3]
    exact e
/-- The reference's chase. -/
theorem csChase_f (rows c : Nat) (own : Bool) (L first : Nat) (hc : c ≤ 16) (hr : c * rows ≤ 16) (hr' : rows ≤ 16) (h0 : 1 ≤ rows) (hL : L < 2 ^ 63) (hf : first < 2 ^ c) (k : Nat) (hk : rows < k) :
    spec_csChase.f k (rows : Int) (c : Int) own (L : Int) (first : Int) = some (((prs c own L first rows : Nat) : Int), (((cr c own L first rows).2 : Nat) : Int)) :=
  csChase_l rows c own L first hc hr hr' hL hf rows 0 k 0 (by omega) hk (fun h => by omega)
theorem chase_l (rows c : Nat) (own : Bool) (L first : Nat) (hc : c ≤ 16) (hr : c * rows ≤ 16) (hr' : rows ≤ 16) (hL : L < 2 ^ 63) (hf : first < 2 ^ c) : ∀ n r k (x : Int), r + 1 + n = rows → n < k →
    impl_grid_chase.l0 k (L : Int) (prs c own L first (r + 1) : Nat) x ((cr c own L first (r + 1)).1 : Nat) ((cr c own L first (r + 1)).2 : Nat) (rows : Int) ((r + 1 : Nat) : Int) (rows : Int) (c : Int) own = some (((prs c own L first rows : Nat) : Int), (((cr c own L first rows).2 : Nat) : Int)) := by
  intro n
  induction n with
  | zero =>
    intro r k x hn hk
    obtain ⟨k, rfl⟩ : ∃ m, k = m + 1 := ⟨k - 1, by omega⟩
    obtain rfl : r + 1 = rows := by omega
    rw [impl_grid_chase.l0, if_neg (by omega)]
  | succ n ih =>
    intro r k x hn hk
    obtain ⟨k, rfl⟩ : ∃ m, k = m + 1 := ⟨k - 1, by omega⟩
    have hp : (2 : Nat) ^ c ≤ 2 ^ 16 := Nat.pow_le_pow_right (by decide) hc
    have hcr : c * (r + 1 + 1) ≤ 16 := Nat.le_trans (Nat.mul_le_mul_left _ (by omega)) hr
    have hcr' : c * (r + 1) ≤ 16 := Nat.le_trans (Nat.mul_le_mul_left _ (by omega)) hr
    obtain ⟨b1, b2⟩ := cr_lt own L hf (r + 1)
    have b3 := tog_lt own b2
    have b4 : rowOf c L (r + 1) < 2 ^ c := mask_lt _ _
    have b5 := prs_lt own L hf (r + 1)
    have b6 := shift_lt (r := r + 1) b2
    have hp1 : (2 : Nat) ^ (c * (r + 1 + 1)) ≤ 2 ^ 16 := Nat.pow_le_pow_right (by decide) hcr
    have hp2 : (2 : Nat) ^ (c * (r + 1)) ≤ 2 ^ 16 := Nat.pow_le_pow_right (by decide) hcr'
    have hd : L / 2 ^ (c * (r + 1)) < 2 ^ 63 := Nat.lt_of_le_of_lt (Nat.div_le_self _ _) hL
    have e := ih (r + 1) k (((cr c own L first (r + 1)).1 : Nat) : Int) (by omega) (by omega)
    rw [impl_grid_chase.l0, if_pos (by omega), if_pos (by omega), ← Int.natCast_mul, Nat.mul_comm (r + 1) c, wrapn (c * (r + 1)) (by omega), if_pos (Int.natCast_nonneg _), whole_f c (by omega), rowToggles_f c hc own _ b2]
    simp only [bs]
    have x1 : rowOf c L (r + 1) ^^^ (cr c own L first (r + 1)).1 < 2 ^ 63 := Nat.xor_lt_two_pow (by omega) (by omega)
    rw [shrn L _ hL, andn _ _ hd (by omega), show L / 2 ^ (c * (r + 1)) &&& (2 ^ c - 1) = rowOf c L (r + 1) from rfl, xorn _ _ (by omega) (by omega), xorn _ _ x1 (by omega), shln _ _ (by omega) (by omega), orn _ _ (by omega) (by omega), show (((r + 1 : Nat) : Int) + 1) = ((r + 1 + 1 : Nat) : Int) from rfl, wrapn _ (by omega)]
    exact e
/-- The program's chase. -/
theorem chase_f (rows c : Nat) (own : Bool) (L first : Nat) (hc : c ≤ 16) (hr : c * rows ≤ 16) (hr' : rows ≤ 16) (h0 : 1 ≤ rows) (hL : L < 2 ^ 63) (hf : first < 2 ^ c) (k : Nat) (hk : rows < k) :
    impl_grid_chase.f k (rows : Int) (c : Int) own (L : Int) (first : Int) = some (((prs c own L first rows : Nat) : Int), (((cr c own L first rows).2 : Nat) : Int)) := by
  obtain ⟨k, rfl⟩ : ∃ m, k = m + 1 := ⟨k - 1, by omega⟩
  have hp : (2 : Nat) ^ c ≤ 2 ^ 16 := Nat.pow_le_pow_right (by decide) hc
  have b3 := tog_lt own hf
  have b4 : rowOf c L 0 < 2 ^ c := mask_lt _ _
  have hd : L / 2 ^ (c * 0) < 2 ^ 63 := Nat.lt_of_le_of_lt (Nat.div_le_self _ _) hL
  have e := chase_l rows c own L first hc hr hr' hL hf (rows - 1) 0 k 0 (by omega) (by omega)
  unfold impl_grid_chase.f
  rw [impl_grid_chase.l0, if_pos (by omega), if_neg (by omega), show (0 : Int) * (c : Int) = ((c * 0 : Nat) : Int) from by simp, wrapn (c * 0) (by omega), if_pos (Int.natCast_nonneg _), whole_f c (by omega), rowToggles_f c hc own _ hf]
  simp only [bs]
  have x1 : rowOf c L 0 ^^^ 0 < 2 ^ 63 := Nat.xor_lt_two_pow (by omega) (by omega)
  rw [shrn L _ hL, andn _ _ hd (by omega), show L / 2 ^ (c * 0) &&& (2 ^ c - 1) = rowOf c L 0 from rfl, show (0 : Int) = ((0 : Nat) : Int) from rfl, xorn _ _ (by omega) (by omega), xorn _ _ x1 (by omega), shln _ _ (by rw [Nat.mul_zero]; omega) (by omega), orn _ _ (by omega) (by rw [Nat.mul_zero]; omega), show (((0 : Nat) : Int) + 1) = ((0 + 1 : Nat) : Int) from rfl, wrapn _ (by omega)]
  exact e
/-- There is a grid with such sides. -/
def GridOk (r c : Int) : Prop := (1 ≤ r ∧ r ≤ 16) ∧ (1 ≤ c ∧ c ≤ 16) ∧ r * c ≤ 16
theorem csGrid_no {r c : Int} (h : ¬ GridOk r c) : spec_csGrid.f r c = some false := by
  unfold spec_csGrid.f; rw [(sides_no (by omega) h).1]; rfl
theorem csGrid_yes {r c : Int} (h : GridOk r c) : spec_csGrid.f r c = some true := by
  unfold spec_csGrid.f; rw [(sides_yes (by omega) h).1]; rfl
theorem gridOf_no {r c : Int} (own : Bool) (h : ¬ GridOk r c) : impl_gridOf.f r c own = some (r, c, own, false) := by
  unfold impl_gridOf.f; rw [(sides_no (by omega) h).2]; rfl
theorem gridOf_yes {r c : Int} (own : Bool) (h : GridOk r c) : impl_gridOf.f r c own = some (r, c, own, true) := by
  unfold impl_gridOf.f; rw [(sides_yes (by omega) h).2]; rfl
/-- A grid's sides as natural numbers. -/
theorem grid_nat {r c : Int} (h : GridOk r c) : ∃ r' c' : Nat, r = (r' : Int) ∧ c = (c' : Int) ∧ 1 ≤ r' ∧ r' ≤ 16 ∧ 1 ≤ c' ∧ c' ≤ 16 ∧ c' * r' ≤ 16 := by
  obtain ⟨h1, h2, h3⟩ := h
  refine ⟨r.toNat, c.toNat, by omega, by omega, by omega, by omega, by omega, by omega, ?_⟩
  have : ((c.toNat * r.toNat : Nat) : Int) = r * c := by rw [Int.natCast_mul, Int.toNat_of_nonneg (by omega), Int.toNat_of_nonneg (by omega), Int.mul_comm]
  omega
theorem csTask_no {r c : Int} (L f : Int) (h : ¬ GridOk r c) : spec_csTask.f r c L f = some false := by
  unfold spec_csTask.f; rw [csGrid_no h]; rfl
theorem csTask_yes (r c : Nat) (L f : Int) (h : GridOk (r : Int) (c : Int)) (hr : c * r ≤ 16) (hc : c ≤ 16) : spec_csTask.f (r : Int) (c : Int) L f = some (decide (0 ≤ L ∧ L ≤ ((2 ^ (c * r) - 1 : Nat) : Int)) && decide (0 ≤ f ∧ f ≤ ((2 ^ c - 1 : Nat) : Int))) := by
  unfold spec_csTask.f
  rw [csGrid_yes h]
  simp only [bs, if_true]
  rw [← Int.natCast_mul, Nat.mul_comm r c, wrapn _ (by omega), if_pos (Int.natCast_nonneg _), wholen _ (by omega), l1In_f]
  simp only [bs]
  by_cases h1 : 0 ≤ L ∧ L ≤ ((2 ^ (c * r) - 1 : Nat) : Int)
  · simp only [decide_eq_true h1, if_true]
    rw [if_pos (Int.natCast_nonneg _), wholen _ (by omega), l1In_f]
    simp only [bs, Bool.true_and]
  · simp only [decide_eq_false h1, Bool.false_eq_true, if_false, Bool.false_and]
theorem isBoard_f (r c : Nat) (own : Bool) (L : Int) (hr : c * r ≤ 16) : impl_grid_isBoard.f (r : Int) (c : Int) own L = some (decide (0 ≤ L ∧ L ≤ ((2 ^ (c * r) - 1 : Nat) : Int))) := by
  unfold impl_grid_isBoard.f
  rw [← Int.natCast_mul, Nat.mul_comm r c, wrapn _ (by omega), whole_f _ (by omega)]
  simp only [bs]
  rw [in_f]; rfl
theorem isFirst_f (r c : Nat) (own : Bool) (f : Int) (hc : c ≤ 16) : impl_grid_isFirst.f (r : Int) (c : Int) own f = some (decide (0 ≤ f ∧ f ≤ ((2 ^ c - 1 : Nat) : Int))) := by
  unfold impl_grid_isFirst.f
  rw [whole_f _ (by omega)]
  simp only [bs]
  rw [in_f]; rfl
theorem impl_ChasePresses_yes (r c : Nat) (own : Bool) (L f : Nat) (h : GridOk (r : Int) (c : Int)) (hr : c * r ≤ 16) (hc : c ≤ 16) (hr' : r ≤ 16) (h0 : 1 ≤ r) (hL : L < 2 ^ (c * r)) (hf : f < 2 ^ c) (k : Nat) (hk : r < k) :
    impl_ChasePresses.f k (r : Int) (c : Int) own (L : Int) (f : Int) = some (((prs c own L f r : Nat) : Int), true) := by
  have hp : (2 : Nat) ^ (c * r) ≤ 2 ^ 16 := Nat.pow_le_pow_right (by decide) hr
  unfold impl_ChasePresses.f
  rw [gridOf_yes own h]
  simp only [bs, if_true]
  rw [isBoard_f r c own L hr, decide_eq_true (p := 0 ≤ (L : Int) ∧ _) ⟨Int.natCast_nonneg _, by omega⟩]
  simp only [bs, if_true]
  rw [isFirst_f r c own f hc, decide_eq_true (p := 0 ≤ (f : Int) ∧ _) ⟨Int.natCast_nonneg _, by omega⟩]
  simp only [bs, if_true]
  rw [chase_f r c own L f hc hr hr' h0 (by omega) hf k hk]; rfl

end Go.Proofs.Ytadjapdaepkfhaa.LemFnExactChasePresses
