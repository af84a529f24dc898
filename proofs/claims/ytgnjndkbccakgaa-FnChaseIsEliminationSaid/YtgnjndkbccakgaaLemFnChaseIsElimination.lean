/- Lemmas on the printed functions of FnChaseIsElimination: what loops and calls come to, at natural numbers in range. -/
import Derived.Test.YtgnjndkbccakgaaPFnChaseIsEliminationx
import Derived.Test.YtgnjndkbccakgaaBit
import Derived.Test.YtgnjndkbccakgaaGra2
import Derived.Test.YtgnjndkbccakgaaPop
import Derived.Test.YtgnjndkbccakgaaGrd
import Derived.Test.YtgnjndkbccakgaaExq
import Derived.Test.YtgnjndkbccakgaaRow2
namespace Go.Proofs.Ytgnjndkbccakgaa.LemFnChaseIsElimination
open Go.RowKit Go.Proofs.Ytgnjndkbccakgaa.PFnChaseIsElimination Go.Proofs.YtgnjndkbccakgaaW.PrintWords Go.Proofs.YtgnjndkbccakgaaW.PrintLast Go.Proofs.Ytgnjndkbccakgaa.Bit Go.Proofs.Ytgnjndkbccakgaa.Row Go.Proofs.Ytgnjndkbccakgaa.Lin Go.Proofs.Ytgnjndkbccakgaa.Gra Go.Proofs.Ytgnjndkbccakgaa.Pop

theorem prod_i {lo r c : Int} (h0 : 0 ≤ lo) (hr : lo ≤ r ∧ r ≤ 16) (hc : lo ≤ c ∧ c ≤ 16) : wrap64 (r * c) = r * c := by
  have h1 : 0 ≤ r * c := Int.mul_nonneg (by omega) (by omega)
  have h2 : r * c ≤ 16 * 16 := Int.mul_le_mul hr.2 hc.2 (by omega) (by omega)
  unfold wrap64
  omega
theorem sides_no {lo r c : Int} (h0 : 0 ≤ lo) (h : ¬ ((lo ≤ r ∧ r ≤ 16) ∧ (lo ≤ c ∧ c ≤ 16) ∧ r * c ≤ 16)) : spec_grSides.f r c lo = some false ∧ impl_isGrid.f r c lo = some false := by
  unfold spec_grSides.f spec_l1In.f impl_isGrid.f impl_in.f
  simp only [ge_iff_le]
  by_cases h1 : lo ≤ r ∧ r ≤ 16
  · rw [if_pos h1.1, decide_eq_true h1.2]
    simp only [bs, if_true]
    by_cases h2 : lo ≤ c ∧ c ≤ 16
    · rw [if_pos h2.1, decide_eq_true h2.2, prod_i h0 h1 h2]
      have h3 : ¬ r * c ≤ 16 := fun h3 => h ⟨h1, h2, h3⟩
      rw [decide_eq_false h3]
      exact ⟨rfl, rfl⟩
    · by_cases h3 : lo ≤ c
      · have h4 : ¬ c ≤ 16 := by omega
        rw [if_pos h3, decide_eq_false h4]; exact ⟨rfl, rfl⟩
      · rw [if_neg h3]; exact ⟨rfl, rfl⟩
  · by_cases h3 : lo ≤ r
    · have h4 : ¬ r ≤ 16 := by omega
      rw [if_pos h3, decide_eq_false h4]; exact ⟨rfl, rfl⟩
    · rw [if_neg h3]; exact ⟨rfl, rfl⟩
theorem sides_yes {lo r c : Int} (h0 : 0 ≤ lo) (h : (lo ≤ r ∧ r ≤ 16) ∧ (lo ≤ c ∧ c ≤ 16) ∧ r * c ≤ 16) : spec_grSides.f r c lo = some true ∧ impl_isGrid.f r c lo = some true := by
  obtain ⟨h1, h2, h3⟩ := h
  unfold spec_grSides.f spec_l1In.f impl_isGrid.f impl_in.f
  simp only [ge_iff_le]
  rw [if_pos h1.1, decide_eq_true h1.2, if_pos h2.1, decide_eq_true h2.2, prod_i h0 h1 h2, decide_eq_true h3]
  exact ⟨rfl, rfl⟩
theorem whole_f (c : Nat) (h : c < 63) : impl_whole.f (c : Int) = some ((2 ^ c - 1 : Nat) : Int) := by
  unfold impl_whole.f
  rw [if_pos (Int.natCast_nonneg _), wholen c h]
theorem in_f (a b c : Int) : impl_in.f a b c = some (decide (b ≤ a ∧ a ≤ c)) := by
  unfold impl_in.f
  split
  · rename_i h; simp [h]
  · rename_i h; simp [h]
theorem l1In_f (a b c : Int) : spec_l1In.f a b c = some (decide (b ≤ a ∧ a ≤ c)) := by
  unfold spec_l1In.f
  split
  · rename_i h; simp [show b ≤ a from h]
  · rename_i h; simp [show ¬ b ≤ a from h]
theorem csToggles_f (c : Nat) (hc : c ≤ 16) (own : Bool) (row : Nat) (h : row < 2 ^ c) : spec_csToggles.f (c : Int) own (row : Int) = some ((tog c own row : Nat) : Int) := by
  have hp : (2 : Nat) ^ c ≤ 2 ^ 16 := Nat.pow_le_pow_right (by decide) hc
  have h1 : row < 2 ^ 16 := by omega
  have h2 : row * 2 ^^^ row / 2 < 2 ^ 63 := Nat.xor_lt_two_pow (by omega) (by omega)
  have h3 : row * 2 ^^^ row / 2 ^^^ row < 2 ^ 63 := Nat.xor_lt_two_pow h2 (by omega)
  have h4 := wholen c (by omega)
  unfold spec_csToggles.f
  rw [if_pos (Int.natCast_nonneg _), if_pos (Int.natCast_nonneg _), h4, twice row (by omega), half, xorn _ _ (by omega) (by omega), xorn _ _ h2 (by omega), andn _ _ h3 (by omega), andn _ _ h2 (by omega), tog_own h, tog_not]
  cases own <;> rfl
theorem rowToggles_f (c : Nat) (hc : c ≤ 16) (own : Bool) (row : Nat) (h : row < 2 ^ c) : impl_rowToggles.f (c : Int) own (row : Int) = some ((tog c own row : Nat) : Int) := by
  have hp : (2 : Nat) ^ c ≤ 2 ^ 16 := Nat.pow_le_pow_right (by decide) hc
  have h1 : row < 2 ^ 16 := by omega
  have h2 : row * 2 ^^^ row / 2 < 2 ^ 63 := Nat.xor_lt_two_pow (by omega) (by omega)
  have h3 : (row * 2 ^^^ row / 2) &&& (2 ^ c - 1) < 2 ^ 63 := Nat.lt_of_lt_of_le (mask_lt _ _) (by omega)
  unfold impl_rowToggles.f
  rw [whole_f c (by omega), twice row (by omega), half, xorn _ _ (by omega) (by omega)]
  simp only [bs]
  rw [andn _ _ h2 (by omega), xorn _ _ h3 (by omega)]
  unfold tog
  cases own <;> simp
theorem csRow_f (c L r : Nat) (hc : c ≤ 16) (hr : c * r ≤ 16) (hL : L < 2 ^ 63) : spec_csRow.f (c : Int) (L : Int) (r : Int) = some ((rowOf c L r : Nat) : Int) := by
  have hp : (2 : Nat) ^ c ≤ 2 ^ 16 := Nat.pow_le_pow_right (by decide) hc
  have hd : L / 2 ^ (c * r) < 2 ^ 63 := Nat.lt_of_le_of_lt (Nat.div_le_self _ _) hL
  unfold spec_csRow.f
  rw [← Int.natCast_mul, wrapn _ (by omega), if_pos (Int.natCast_nonneg _), if_pos (Int.natCast_nonneg _), shrn L _ hL, wholen c (by omega), andn _ _ hd (by omega)]
  rfl
theorem csChase_l (rows c : Nat) (own : Bool) (L first : Nat) (hc : c ≤ 16) (hr : c * rows ≤ 16) (hr' : rows ≤ 16) (hL : L < 2 ^ 63) (hf : first < 2 ^ c) : ∀ n r k (left : Int), r + n = rows → n < k → (n = 0 → left = ((cr c own L first rows).2 : Nat)) →
    spec_csChase.l0 k (rows : Int) (c : Int) own (L : Int) (prs c own L first r : Nat) ((cr c own L first r).2 : Nat) ((cr c own L first r).1 : Nat) left (r : Int) = some (((prs c own L first rows : Nat) : Int), (((cr c own L first rows).2 : Nat) : Int)) := by
  intro n
  induction n with
  | zero =>
    intro r k left hn hk hl
    obtain ⟨k, rfl⟩ : ∃ m, k = m + 1 := ⟨k - 1, by omega⟩
    obtain rfl : r = rows := by omega
    rw [spec_csChase.l0, if_neg (by omega), hl rfl]
  | succ n ih =>
    intro r k left hn hk _
    obtain ⟨k, rfl⟩ : ∃ m, k = m + 1 := ⟨k - 1, by omega⟩
    have hp : (2 : Nat) ^ c ≤ 2 ^ 16 := Nat.pow_le_pow_right (by decide) hc
    have hcr : c * (r + 1) ≤ 16 := Nat.le_trans (Nat.mul_le_mul_left _ (by omega)) hr
    have hcr' : c * r ≤ 16 := Nat.le_trans (Nat.mul_le_mul_left _ (by omega)) hr
    obtain ⟨b1, b2⟩ := cr_lt own L hf r
    have b3 := tog_lt own b2
    have b4 : rowOf c L r < 2 ^ c := mask_lt _ _
    have b5 := prs_lt own L hf r
    have b6 := shift_lt (r := r) b2
    have hp1 : (2 : Nat) ^ (c * (r + 1)) ≤ 2 ^ 16 := Nat.pow_le_pow_right (by decide) hcr
    have hp2 : (2 : Nat) ^ (c * r) ≤ 2 ^ 16 := Nat.pow_le_pow_right (by decide) hcr'
    have e := ih (r + 1) k (((cr c own L first (r + 1)).2 : Nat) : Int) (by omega) (by omega) (fun h => by rw [show r + 1 = rows by omega])
    rw [spec_csChase.l0, if_pos (by omega), ← Int.natCast_mul, wrapn (c * r) (by omega), if_pos (Int.natCast_nonneg _), csRow_f c L r hc hcr' hL, csToggles_f c hc own _ b2]
    simp only [bs]
    have x1 : rowOf c L r ^^^ tog c own (cr c own L first r).2 < 2 ^ 63 := Nat.xor_lt_two_pow (by omega) (by omega)
    rw [xorn _ _ (by omega) (by omega), xorn _ _ x1 (by omega), shln _ _ (by omega) (by omega), orn _ _ (by omega) (by omega), show ((r : Int) + 1) = ((r + 1 : Nat) : Int) from rfl, wrapn _ (by omega), x3]
    exact e
/-- The reference's chase. -/
theorem csChase_f (rows c : Nat) (own : Bool) (L first : Nat) (hc : c ≤ 16) (hr : c * rows ≤ 16) (hr' : rows ≤ 16) (h0 : 1 ≤ rows) (hL : L < 2 ^ 63) (hf : first < 2 ^ c) (k : Nat) (hk : rows < k) :
    spec_csChase.f k (rows : Int) (c : Int) own (L : Int) (first : Int) = some (((prs c own L first rows : Nat) : Int), (((cr c own L first rows).2 : Nat) : Int)) :=
  csChase_l rows c own L first hc hr hr' hL hf rows 0 k 0 (by omega) hk (fun h => by omega)
theorem chase_l (rows c : Nat) (own : Bool) (L first : Nat) (hc : c ≤ 16) (hr : c * rows ≤ 16) (hr' : rows ≤ 16) (hL : L < 2 ^ 63) (hf : first < 2 ^ c) : ∀ n r k (x : Int), r + 1 + n = rows → n < k →
    impl_grid_chase.l0 k (L : Int) (prs c own L first (r + 1) : Nat) x ((cr c own L first (r + 1)).1 : Nat) ((cr c own L first (r + 1)).2 : Nat) (rows : Int) ((r + 1 : Nat) : Int) (rows : Int) (c : Int) own = some (((prs c own L first rows : Nat) : Int), (((cr c own L first rows).2 : Nat) : Int)) := by
  intro n
  induction n with
  | zero =>
    intro r k x hn hk
    obtain ⟨k, rfl⟩ : ∃ m, k = m + 1 := ⟨k - 1, by omega⟩
    obtain rfl : r + 1 = rows := by omega
    rw [impl_grid_chase.l0, if_neg (by omega)]
  | succ n ih =>
    intro r k x hn hk
    obtain ⟨k, rfl⟩ : ∃ m, k = m + 1 := ⟨k - 1, by omega⟩
    have hp : (2 : Nat) ^ c ≤ 2 ^ 16 := Nat.pow_le_pow_right (by decide) hc
    have hcr : c * (r + 1 + 1) ≤ 16 := Nat.le_trans (Nat.mul_le_mul_left _ (by omega)) hr
    have hcr' : c * (r + 1) ≤ 16 := Nat.le_trans (Nat.mul_le_mul_left _ (by omega)) hr
    obtain ⟨b1, b2⟩ := cr_lt own L hf (r + 1)
    have b3 := tog_lt own b2
    have b4 : rowOf c L (r + 1) < 2 ^ c := mask_lt _ _
    have b5 := prs_lt own L hf (r + 1)
    have b6 := shift_lt (r := r + 1) b2
    have hp1 : (2 : Nat) ^ (c * (r + 1 + 1)) ≤ 2 ^ 16 := Nat.pow_le_pow_right (by decide) hcr
    have hp2 : (2 : Nat) ^ (c * (r + 1)) ≤ 2 ^ 16 := Nat.pow_le_pow_right (by decide) hcr'
    have hd : L / 2 ^ (c * (r + 1)) < 2 ^ 63 := Nat.lt_of_le_of_lt (Nat.div_le_self _ _) hL
    have e := ih (r + 1) k (((cr c own L first (r + 1)).1 : Nat) : Int) (by omega) (by omega)
    rw [impl_grid_chase.l0, if_pos (by omega), if_pos (by omega), ← Int.natCast_mul, Nat.mul_comm (r + 1) c, wrapn (c * (r + 1)) (by omega), if_pos (Int.natCast_nonneg _), whole_f c (by omega), rowToggles_f c hc own _ b2]
    simp only [bs]
    have x1 : rowOf c L (r + 1) ^^^ (cr c own L first (r + 1)).1 < 2 ^ 63 := Nat.xor_lt_two_pow (by omega) (by omega)
    rw [shrn L _ hL, andn _ _ hd (by omega), show L / 2 ^ (c * (r + 1)) &&& (2 ^ c - 1) = rowOf c L (r + 1) from rfl, xorn _ _ (by omega) (by omega), xorn _ _ x1 (by omega), shln _ _ (by omega) (by omega), orn _ _ (by omega) (by omega), show (((r + 1 : Nat) : Int) + 1) = ((r + 1 + 1 : Nat) : Int) from rfl, wrapn _ (by omega)]
    exact e
/-- The program's chase. -/
theorem chase_f (rows c : Nat) (own : Bool) (L first : Nat) (hc : c ≤ 16) (hr : c * rows ≤ 16) (hr' : rows ≤ 16) (h0 : 1 ≤ rows) (hL : L < 2 ^ 63) (hf : first < 2 ^ c) (k : Nat) (hk : rows < k) :
    impl_grid_chase.f k (rows : Int) (c : Int) own (L : Int) (first : Int) = some (((prs c own L first rows : Nat) : Int), (((cr c own L first rows).2 : Nat) : Int)) := by
  obtain ⟨k, rfl⟩ : ∃ m, k = m + 1 := ⟨k - 1, by omega⟩
  have hp : (2 : Nat) ^ c ≤ 2 ^ 16 := Nat.pow_le_pow_right (by decide) hc
  have b3 := tog_lt own hf
  have b4 : rowOf c L 0 < 2 ^ c := mask_lt _ _
  have hd : L / 2 ^ (c * 0) < 2 ^ 63 := Nat.lt_of_le_of_lt (Nat.div_le_self _ _) hL
  have e := chase_l rows c own L first hc hr hr' hL hf (rows - 1) 0 k 0 (by omega) (by omega)
  unfold impl_grid_chase.f
  rw [impl_grid_chase.l0, if_pos (by omega), if_neg (by omega), show (0 : Int) * (c : Int) = ((c * 0 : Nat) : Int) from by simp, wrapn (c * 0) (by omega), if_pos (Int.natCast_nonneg _), whole_f c (by omega), rowToggles_f c hc own _ hf]
  simp only [bs]
  have x1 : rowOf c L 0 ^^^ 0 < 2 ^ 63 := Nat.xor_lt_two_pow (by omega) (by omega)
  rw [shrn L _ hL, andn _ _ hd (by omega), show L / 2 ^ (c * 0) &&& (2 ^ c - 1) = rowOf c L 0 from rfl, show (0 : Int) = ((0 : Nat) : Int) from rfl, xorn _ _ (by omega) (by omega), xorn _ _ x1 (by omega), shln _ _ (by rw [Nat.mul_zero]; omega) (by omega), orn _ _ (by omega) (by rw [Nat.mul_zero]; omega), show (((0 : Nat) : Int) + 1) = ((0 + 1 : Nat) : Int) from rfl, wrapn _ (by omega)]
  exact e
/-- There is a grid with such sides. -/
def GridOk (r c : Int) : Prop := (1 ≤ r ∧ r ≤ 16) ∧ (1 ≤ c ∧ c ≤ 16) ∧ r * c ≤ 16
theorem csGrid_no {r c : Int} (h : ¬ GridOk r c) : spec_csGrid.f r c = some false := by
  unfold spec_csGrid.f; rw [(sides_no (by omega) h).1]; rfl
theorem csGrid_yes {r c : Int} (h : GridOk r c) : spec_csGrid.f r c = some true := by
  unfold spec_csGrid.f; rw [(sides_yes (by omega) h).1]; rfl
theorem gridOf_no {r c : Int} (own : Bool) (h : ¬ GridOk r c) : impl_gridOf.f r c own = some (r, c, own, false) := by
  unfold impl_gridOf.f; rw [(sides_no (by omega) h).2]; rfl
theorem gridOf_yes {r c : Int} (own : Bool) (h : GridOk r c) : impl_gridOf.f r c own = some (r, c, own, true) := by
  unfold impl_gridOf.f; rw [(sides_yes (by omega) h).2]; rfl
/-- A grid's sides as natural numbers. -/
theorem grid_nat {r c : Int} (h : GridOk r c) : ∃ r' c' : Nat, r = (r' : Int) ∧ c = (c' : Int) ∧ 1 ≤ r' ∧ r' ≤ 16 ∧ 1 ≤ c' ∧ c' ≤ 16 ∧ c' * r' ≤ 16 := by
  obtain ⟨h1, h2, h3⟩ := h
  refine ⟨r.toNat, c.toNat, by omega, by omega, by omega, by omega, by omega, by omega, ?_⟩
  have : ((c.toNat * r.toNat : Nat) : Int) = r * c := by rw [Int.natCast_mul, Int.toNat_of_nonneg (by omega), Int.toNat_of_nonneg (by omega), Int.mul_comm]
  omega
theorem csTask_no {r c : Int} (L f : Int) (h : ¬ GridOk r c) : spec_csTask.f r c L f = some false := by
  unfold spec_csTask.f; rw [csGrid_no h]; rfl
theorem csTask_yes (r c : Nat) (L f : Int) (h : GridOk (r : Int) (c : Int)) (hr : c * r ≤ 16) (hc : c ≤ 16) : spec_csTask.f (r : Int) (c : Int) L f = some (decide (0 ≤ L ∧ L ≤ ((2 ^ (c * r) - 1 : Nat) : Int)) && decide (0 ≤ f ∧ f ≤ ((2 ^ c - 1 : Nat) : Int))) := by
  unfold spec_csTask.f
  rw [csGrid_yes h]
  simp only [bs, if_true]
  rw [← Int.natCast_mul, Nat.mul_comm r c, wrapn _ (by omega), if_pos (Int.natCast_nonneg _), wholen _ (by omega), l1In_f]
  simp only [bs]
  by_cases h1 : 0 ≤ L ∧ L ≤ ((2 ^ (c * r) - 1 : Nat) : Int)
  · simp only [decide_eq_true h1, if_true]
    rw [if_pos (Int.natCast_nonneg _), wholen _ (by omega), l1In_f]
    simp only [bs, Bool.true_and]
  · simp only [decide_eq_false h1, Bool.false_eq_true, if_false, Bool.false_and]
theorem isBoard_f (r c : Nat) (own : Bool) (L : Int) (hr : c * r ≤ 16) : impl_grid_isBoard.f (r : Int) (c : Int) own L = some (decide (0 ≤ L ∧ L ≤ ((2 ^ (c * r) - 1 : Nat) : Int))) := by
  unfold impl_grid_isBoard.f
  rw [← Int.natCast_mul, Nat.mul_comm r c, wrapn _ (by omega), whole_f _ (by omega)]
  simp only [bs]
  rw [in_f]; rfl
theorem isFirst_f (r c : Nat) (own : Bool) (f : Int) (hc : c ≤ 16) : impl_grid_isFirst.f (r : Int) (c : Int) own f = some (decide (0 ≤ f ∧ f ≤ ((2 ^ c - 1 : Nat) : Int))) := by
  unfold impl_grid_isFirst.f
  rw [whole_f _ (by omega)]
  simp only [bs]
  rw [in_f]; rfl
theorem csFirst_l (rows c : Nat) (own : Bool) (L : Nat) (hc : c ≤ 16) (hr : c * rows ≤ 16) (hr' : rows ≤ 16) (h0 : 1 ≤ rows) (hL : L < 2 ^ 63) : ∀ n i k, i + n = 2 ^ c → n + rows < k →
    spec_csFirst.l0 k (rows : Int) (c : Int) own (L : Int) (zs ((List.range i).filter fun f => (cr c own L f rows).2 = 0)) (i : Int) = some (zs (firsts rows c own L)) := by
  have hp : (2 : Nat) ^ c ≤ 2 ^ 16 := Nat.pow_le_pow_right (by decide) hc
  intro n
  induction n with
  | zero =>
    intro i k hi hk
    obtain ⟨k, rfl⟩ : ∃ m, k = m + 1 := ⟨k - 1, by omega⟩
    rw [spec_csFirst.l0, if_pos (Int.natCast_nonneg _), shl1 c (by omega), if_neg (by omega), show i = 2 ^ c by omega]; rfl
  | succ n ih =>
    intro i k hi hk
    obtain ⟨k, rfl⟩ : ∃ m, k = m + 1 := ⟨k - 1, by omega⟩
    have hlen : ((List.range i).filter fun f => (cr c own L f rows).2 = 0).length ≤ i := Nat.le_trans (List.length_filter_le _ _) (by simp)
    have e := ih (i + 1) k (by omega) (by omega)
    rw [List.range_succ, List.filter_append] at e
    rw [spec_csFirst.l0, if_pos (Int.natCast_nonneg _), shl1 c (by omega), if_pos (by omega), csChase_f rows c own L i hc hr hr' h0 hL (by omega) k (by omega)]
    simp only [bs]
    rw [show ((i : Int) + 1) = ((i + 1 : Nat) : Int) from rfl, wrapn _ (by omega)]
    by_cases hz : (cr c own L i rows).2 = 0
    · rw [if_pos (by rw [hz]; rfl), if_pos (by rw [zs_length]; omega)]
      rw [List.filter_cons_of_pos (by simpa using hz), List.filter_nil, zs_append] at e
      exact e
    · rw [if_neg (by omega)]
      rw [List.filter_cons_of_neg (by simpa using hz), List.filter_nil, List.append_nil] at e
      exact e
theorem csFirst_f (rows c : Nat) (own : Bool) (L : Nat) (hc : c ≤ 16) (hr : c * rows ≤ 16) (hr' : rows ≤ 16) (h0 : 1 ≤ rows) (hL : L < 2 ^ 63) (k : Nat) (hk : 2 ^ c + rows < k) :
    spec_csFirst.f k (rows : Int) (c : Int) own (L : Int) = some (zs (firsts rows c own L)) :=
  csFirst_l rows c own L hc hr hr' h0 hL (2 ^ c) 0 k (by omega) hk
theorem firstRows_l (rows c : Nat) (own : Bool) (L : Nat) (hc : c ≤ 16) (hr : c * rows ≤ 16) (hr' : rows ≤ 16) (h0 : 1 ≤ rows) (hL : L < 2 ^ 63) : ∀ n i k, i + n = 2 ^ c → n + rows < k →
    impl_grid_firstRows.l0 k (L : Int) (zs ((List.range i).filter fun f => (cr c own L f rows).2 = 0)) ((2 ^ c : Nat) : Int) (i : Int) (rows : Int) (c : Int) own = some (zs (firsts rows c own L)) := by
  have hp : (2 : Nat) ^ c ≤ 2 ^ 16 := Nat.pow_le_pow_right (by decide) hc
  intro n
  induction n with
  | zero =>
    intro i k hi hk
    obtain ⟨k, rfl⟩ : ∃ m, k = m + 1 := ⟨k - 1, by omega⟩
    rw [impl_grid_firstRows.l0, if_neg (by omega), show i = 2 ^ c by omega]; rfl
  | succ n ih =>
    intro i k hi hk
    obtain ⟨k, rfl⟩ : ∃ m, k = m + 1 := ⟨k - 1, by omega⟩
    have hlen : ((List.range i).filter fun f => (cr c own L f rows).2 = 0).length ≤ i := Nat.le_trans (List.length_filter_le _ _) (by simp)
    have e := ih (i + 1) k (by omega) (by omega)
    rw [List.range_succ, List.filter_append] at e
    rw [impl_grid_firstRows.l0, if_pos (by omega), chase_f rows c own L i hc hr hr' h0 hL (by omega) k (by omega)]
    simp only [bs]
    rw [show ((i : Int) + 1) = ((i + 1 : Nat) : Int) from rfl, wrapn _ (by omega)]
    by_cases hz : (cr c own L i rows).2 = 0
    · rw [if_pos (by rw [hz]; rfl), if_pos (by rw [zs_length]; omega)]
      rw [List.filter_cons_of_pos (by simpa using hz), List.filter_nil, zs_append] at e
      exact e
    · rw [if_neg (by omega)]
      rw [List.filter_cons_of_neg (by simpa using hz), List.filter_nil, List.append_nil] at e
      exact e
theorem firstRows_f (rows c : Nat) (own : Bool) (L : Nat) (hc : c ≤ 16) (hr : c * rows ≤ 16) (hr' : rows ≤ 16) (h0 : 1 ≤ rows) (hL : L < 2 ^ 63) (k : Nat) (hk : 2 ^ c + rows < k) :
    impl_grid_firstRows.f k (rows : Int) (c : Int) own (L : Int) = some (zs (firsts rows c own L)) := by
  unfold impl_grid_firstRows.f
  rw [if_pos (Int.natCast_nonneg _), shl1 c (by omega)]
  exact firstRows_l rows c own L hc hr hr' h0 hL (2 ^ c) 0 k (by omega) hk
theorem spec_FirstRows_no (r c : Int) (own : Bool) (L : Int) (h : ¬ GridOk r c) (k : Nat) : spec_FirstRows.f k r c own L = some ([], false) := by
  unfold spec_FirstRows.f; rw [csTask_no L 0 h]; rfl
theorem spec_FirstRows_yes (r c : Nat) (own : Bool) (L : Int) (h : GridOk (r : Int) (c : Int)) (hr : c * r ≤ 16) (hc : c ≤ 16) (hr' : r ≤ 16) (h0 : 1 ≤ r) (k : Nat) (hk : 2 ^ c + r < k) :
    spec_FirstRows.f k (r : Int) (c : Int) own L = some (if (0 ≤ L ∧ L ≤ ((2 ^ (c * r) - 1 : Nat) : Int)) ∧ c ≤ 8 then (zs (firsts r c own L.toNat), true) else ([], false)) := by
  have hp : (2 : Nat) ^ (c * r) ≤ 2 ^ 16 := Nat.pow_le_pow_right (by decide) hr
  unfold spec_FirstRows.f
  rw [csTask_yes r c L 0 h hr hc, decide_eq_true (p := (0 : Int) ≤ 0 ∧ (0 : Int) ≤ _) ⟨by omega, Int.natCast_nonneg _⟩, Bool.and_true]
  simp only [bs]
  by_cases h1 : 0 ≤ L ∧ L ≤ ((2 ^ (c * r) - 1 : Nat) : Int)
  · simp only [decide_eq_true h1, if_true]
    by_cases h2 : c ≤ 8
    · obtain ⟨L', rfl⟩ := Int.eq_ofNat_of_zero_le h1.1
      rw [if_neg (by omega), csFirst_f r c own L' hc hr hr' h0 (by omega) k hk, if_pos ⟨h1, h2⟩, Int.toNat_natCast]
      simp only [bs]
    · rw [if_pos (by omega), if_neg (fun h => h2 h.2)]
  · simp only [decide_eq_false h1, Bool.false_eq_true, if_false]
    rw [if_neg (fun h2 => h1 h2.1)]
theorem impl_FirstRows_no (r c : Int) (own : Bool) (L : Int) (h : ¬ GridOk r c) (k : Nat) : impl_FirstRows.f k r c own L = some ([], false) := by
  unfold impl_FirstRows.f; rw [gridOf_no own h]; rfl
theorem impl_FirstRows_yes (r c : Nat) (own : Bool) (L : Int) (h : GridOk (r : Int) (c : Int)) (hr : c * r ≤ 16) (hc : c ≤ 16) (hr' : r ≤ 16) (h0 : 1 ≤ r) (k : Nat) (hk : 2 ^ c + r < k) :
    impl_FirstRows.f k (r : Int) (c : Int) own L = some (if (0 ≤ L ∧ L ≤ ((2 ^ (c * r) - 1 : Nat) : Int)) ∧ c ≤ 8 then (zs (firsts r c own L.toNat), true) else ([], false)) := by
  have hp : (2 : Nat) ^ (c * r) ≤ 2 ^ 16 := Nat.pow_le_pow_right (by decide) hr
  unfold impl_FirstRows.f
  rw [gridOf_yes own h]
  simp only [bs, if_true]
  rw [isBoard_f r c own L hr]
  simp only [bs]
  by_cases h1 : 0 ≤ L ∧ L ≤ ((2 ^ (c * r) - 1 : Nat) : Int)
  · simp only [decide_eq_true h1, if_true]
    by_cases h2 : c ≤ 8
    · obtain ⟨L', rfl⟩ := Int.eq_ofNat_of_zero_le h1.1
      rw [if_neg (by omega), firstRows_f r c own L' hc hr hr' h0 (by omega) k hk, if_pos ⟨h1, h2⟩, Int.toNat_natCast]
      simp only [bs]
    · rw [if_pos (by omega), if_neg (fun h => h2 h.2)]
  · simp only [decide_eq_false h1, Bool.false_eq_true, if_false]
    rw [if_neg (fun h2 => h1 h2.1)]
theorem impl_ChasePresses_yes (r c : Nat) (own : Bool) (L f : Nat) (h : GridOk (r : Int) (c : Int)) (hr : c * r ≤ 16) (hc : c ≤ 16) (hr' : r ≤ 16) (h0 : 1 ≤ r) (hL : L < 2 ^ (c * r)) (hf : f < 2 ^ c) (k : Nat) (hk : r < k) :
    impl_ChasePresses.f k (r : Int) (c : Int) own (L : Int) (f : Int) = some (((prs c own L f r : Nat) : Int), true) := by
  have hp : (2 : Nat) ^ (c * r) ≤ 2 ^ 16 := Nat.pow_le_pow_right (by decide) hr
  unfold impl_ChasePresses.f
  rw [gridOf_yes own h]
  simp only [bs, if_true]
  rw [isBoard_f r c own L hr, decide_eq_true (p := 0 ≤ (L : Int) ∧ _) ⟨Int.natCast_nonneg _, by omega⟩]
  simp only [bs, if_true]
  rw [isFirst_f r c own f hc, decide_eq_true (p := 0 ≤ (f : Int) ∧ _) ⟨Int.natCast_nonneg _, by omega⟩]
  simp only [bs, if_true]
  rw [chase_f r c own L f hc hr hr' h0 (by omega) hf k hk]; rfl
theorem least_nil {l : List Nat} (h : ¬ ((zs l).length : Int) > 0) : least l = -1 := by
  cases l with
  | nil => rfl
  | cons a t => rw [zs_length, List.length_cons] at h; omega
theorem least_cons {l : List Nat} (h : ((zs l).length : Int) > 0) : least l = rd (zs l) 0 := by
  cases l with
  | nil => rw [zs_length, List.length_nil] at h; omega
  | cons a t => exact (rd_zs (a :: t) 0).symm
theorem has_f (x i : Nat) (hx : x < 2 ^ 63) : impl_has.f (x : Int) (i : Int) = some (x.testBit i) := by
  unfold impl_has.f
  rw [if_pos (Int.natCast_nonneg _), shrn x i hx, show (1 : Int) = ((1 : Nat) : Int) from rfl, andn _ _ (Nat.lt_of_le_of_lt (Nat.div_le_self _ _) hx) (by decide), Nat.and_one_is_mod, Nat.testBit_eq_decide_div_mod_eq]
  congr 1
  rcases Nat.mod_two_eq_zero_or_one (x / 2 ^ i) with h | h <;> rw [h] <;> rfl
theorem tog_f (m : List Nat) (hg : GoodG m) (own : Bool) (i : Nat) (hi : i < m.length) : impl_Graph_toggles.f (zs m) own (i : Int) = some ((tgl m own i : Nat) : Int) := by
  have h1 := hg.bound i
  have h2 := hg.le
  have h3 : 2 ^ i < 2 ^ 63 := pow63 (by omega)
  unfold impl_Graph_toggles.f tgl
  cases own with
  | true => rw [if_pos rfl, if_pos (Int.natCast_nonneg _), if_pos (by rw [zs_length]; omega), rd_nth, shl1 i (by omega), orn _ _ (by omega) h3]; rfl
  | false => rw [if_neg (by decide), if_pos (Int.natCast_nonneg _), if_pos (by rw [zs_length]; omega), rd_nth]; rfl
theorem eff_l (m : List Nat) (hg : GoodG m) (own : Bool) (x : Nat) (hx : x < 2 ^ 63) : ∀ n i k, i + n = m.length → n < k → impl_Graph_effect.l0 k (x : Int) ((effTo m own x i : Nat) : Int) (m.length : Int) (i : Int) (zs m) own = some ((eff m own x : Nat) : Int) := by
  intro n
  induction n with
  | zero =>
    intro i k hi hk
    obtain ⟨k, rfl⟩ : ∃ m, k = m + 1 := ⟨k - 1, by omega⟩
    rw [impl_Graph_effect.l0, if_neg (by omega), show i = m.length by omega]; rfl
  | succ n ih =>
    intro i k hi hk
    obtain ⟨k, rfl⟩ : ∃ m, k = m + 1 := ⟨k - 1, by omega⟩
    have e := ih (i + 1) k (by omega) (by omega)
    have h1 := effTo_lt hg own x i (by omega)
    have h2 := tgl_lt hg own (i := i) (by omega)
    have h3 := pow16 hg
    have h4 := hg.le
    rw [effTo] at e
    rw [impl_Graph_effect.l0, if_pos (by omega), has_f x i hx]
    simp only [bs]
    rw [show ((i : Int) + 1) = ((i + 1 : Nat) : Int) from rfl, wrapn _ (by omega)]
    by_cases hb : x.testBit i = true
    · rw [if_pos hb, tog_f m hg own i (by omega)]
      simp only [bs]
      rw [xorn _ _ (by omega) (by omega)]
      rw [if_pos hb] at e
      exact e
    · rw [if_neg hb]
      rw [if_neg hb, Nat.xor_zero] at e
      exact e
theorem eff_f (m : List Nat) (hg : GoodG m) (own : Bool) (x : Nat) (hx : x < 2 ^ 63) (k : Nat) (hk : m.length < k) : impl_Graph_effect.f k (zs m) own (x : Int) = some ((eff m own x : Nat) : Int) := by
  unfold impl_Graph_effect.f
  rw [zs_length]
  exact eff_l m hg own x hx m.length 0 k (by omega) hk
theorem bits255 (X : Int) : ∃ n : Nat, n ≤ 255 ∧ wrap64 (Go.bits .and .u64 (IntKind.u64.wrap X / 1099511627776) 255) = (n : Int) := by
  have h : 0 ≤ IntKind.u64.wrap X ∧ IntKind.u64.wrap X < 18446744073709551616 := by rw [IntKind.wrap_u64]; omega
  obtain ⟨m, hm⟩ := Int.eq_ofNat_of_zero_le h.1
  rw [hm] at h ⊢
  have hq : ((m : Int) / 1099511627776) = ((m / 1099511627776 : Nat) : Int) := rfl
  rw [hq, show (255 : Int) = ((255 : Nat) : Int) from rfl, andu _ _ (by omega) (by decide)]
  have h2 : m / 1099511627776 &&& 255 ≤ 255 := Nat.and_le_right
  exact ⟨_, h2, wrapn _ (by omega)⟩
/-- Bytes that came in. -/
def Byt (l : List Int) : Prop := l.length ≤ 140737488355328 ∧ ∀ x ∈ l, 0 ≤ x ∧ x ≤ 255
theorem Byt.of {l : List Int} (h1 : l.length ≤ 140737488355328) (h : ∀ x ∈ l, (Lit.int .u8 x).wf = true) : Byt l := ⟨h1, fun x hx => by
  have h2 : IntKind.u8.min ≤ x ∧ x ≤ IntKind.u8.max := by
    have := h x hx
    simpa [Lit.wf] using this
  exact h2⟩
theorem mod_le {x m : Int} (h : 0 ≤ x) (hm : 0 < m) : x % m ≤ x := by
  rcases Int.lt_or_le x m with h1 | h1
  · rw [Int.emod_eq_of_lt h h1]; exact Int.le_refl _
  · have := Int.emod_lt_of_pos x hm; omega
theorem next_t {l : List Int} (hb : Byt l) (at_ sd : Int) (n : Nat) (h0 : 0 ≤ at_) (h1 : at_ ≤ n) (hn : n ≤ 1000) :
    ∃ x a s, spec_l1Cur_next.f l at_ sd = some (x, a, s) ∧ 0 ≤ a ∧ a ≤ ((n + 1 : Nat) : Int) ∧ 0 ≤ x ∧ x ≤ 255 := by
  have hl := hb.1
  have e1 : wrap64 (at_ + 1) = at_ + 1 := wrapi (by omega) (by omega)
  unfold spec_l1Cur_next.f
  by_cases c1 : at_ < (l.length : Int)
  · rw [if_pos c1, if_pos h0, e1, if_pos (by omega)]
    obtain ⟨i, rfl⟩ := Int.eq_ofNat_of_zero_le h0
    have hi : i < l.length := by omega
    have e : rd l (i : Int) = l[i] := by
      unfold rd
      rw [Int.toNat_natCast, List.getD_eq_getElem?_getD, List.getElem?_eq_getElem hi]; rfl
    have hx := hb.2 _ (List.getElem_mem hi)
    have e2 : wrap64 (rd l (i : Int)) = l[i] := by rw [e]; exact wrapi hx.1 (by omega)
    rw [e2]
    exact ⟨_, _, _, rfl, by omega, by omega, hx.1, hx.2⟩
  · rw [if_neg c1, e1]
    by_cases c2 : at_ + 1 ≤ (l.length : Int)
    · exact absurd c2 (by omega)
    · rw [if_neg c2]
      obtain ⟨m, hm, e⟩ := bits255 ((IntKind.u64.wrap (IntKind.u64.wrap (sd * 6364136223846793005))) + 1442695040888963407)
      rw [e]
      exact ⟨_, _, _, rfl, by omega, by omega, by omega, by omega⟩
theorem pick_t {l : List Int} (hb : Byt l) (at_ sd m : Int) (n : Nat) (h0 : 0 ≤ at_) (h1 : at_ ≤ n) (hn : n ≤ 900) :
    ∃ x a s, spec_l1Cur_pick.f l at_ sd m = some (x, a, s) ∧ 0 ≤ a ∧ a ≤ ((n + 2 : Nat) : Int) ∧ 0 ≤ x ∧ (1 ≤ m → x < m) ∧ x ≤ 65535 := by
  unfold spec_l1Cur_pick.f
  by_cases c1 : m ≤ 1
  · rw [if_pos c1]
    exact ⟨_, _, _, rfl, h0, by omega, by omega, fun h => by omega, by omega⟩
  · rw [if_neg c1]
    obtain ⟨x, a, s, e, ha, ha2, hx, hx2⟩ := next_t hb at_ sd n h0 h1 (by omega)
    rw [e]
    simp only [bs]
    by_cases c2 : m > 200
    · rw [if_pos c2]
      obtain ⟨y, a', s', e', ha', ha2', hy, hy2⟩ := next_t hb a s (n + 1) ha ha2 (by omega)
      rw [e']
      simp only [bs]
      rw [if_neg (by omega), wrapi (n := x * 256) (by omega) (by omega), wrapi (by omega) (by omega)]
      have h3 : Int.tmod (x * 256 + y) m = (x * 256 + y) % m := Int.tmod_eq_emod_of_nonneg (by omega)
      have h4 := Int.emod_nonneg (x * 256 + y) (show m ≠ 0 by omega)
      have h5 := Int.emod_lt_of_pos (x * 256 + y) (show 0 < m by omega)
      have h6 : (x * 256 + y) % m ≤ x * 256 + y := mod_le (by omega) (by omega)
      rw [h3]
      exact ⟨_, _, _, rfl, ha', ha2', h4, fun _ => h5, by omega⟩
    · rw [if_neg c2, if_neg (by omega)]
      have h3 : Int.tmod x m = x % m := Int.tmod_eq_emod_of_nonneg (by omega)
      have h4 := Int.emod_nonneg x (show m ≠ 0 by omega)
      have h5 := Int.emod_lt_of_pos x (show 0 < m by omega)
      have h6 : x % m ≤ x := mod_le (by omega) (by omega)
      rw [h3]
      exact ⟨_, _, _, rfl, ha, by omega, h4, fun _ => h5, by omega⟩
theorem among_t {l : List Int} (hb : Byt l) (at_ sd : Int) (xs : List Int) (hx : 1 ≤ xs.length) (n : Nat) (h0 : 0 ≤ at_) (h1 : at_ ≤ n) (hn : n ≤ 900) :
    ∃ x a s, spec_l1Cur_among.f l at_ sd xs = some (x, a, s) ∧ 0 ≤ a ∧ a ≤ ((n + 2 : Nat) : Int) ∧ x ∈ xs := by
  obtain ⟨i, a, s, e, ha, ha2, hi, hi2, _⟩ := pick_t hb at_ sd (xs.length : Int) n h0 h1 hn
  have hi3 := hi2 (by omega)
  unfold spec_l1Cur_among.f
  rw [e]
  simp only [bs]
  rw [if_pos hi, if_pos hi3]
  refine ⟨_, _, _, rfl, ha, ha2, ?_⟩
  obtain ⟨i, rfl⟩ := Int.eq_ofNat_of_zero_le hi
  unfold rd
  rw [Int.toNat_natCast, List.getD_eq_getElem?_getD, List.getElem?_eq_getElem (show i < xs.length by omega)]
  exact List.getElem_mem _
theorem one_t {l : List Int} (hb : Byt l) (at_ sd m : Int) (n : Nat) (h0 : 0 ≤ at_) (h1 : at_ ≤ n) (hn : n ≤ 900) :
    ∃ x a s, spec_l1Cur_one.f l at_ sd m = some (x, a, s) ∧ 0 ≤ a ∧ a ≤ ((n + 2 : Nat) : Int) := by
  obtain ⟨i, a, s, e, ha, ha2, _⟩ := pick_t hb at_ sd m n h0 h1 hn
  unfold spec_l1Cur_one.f
  rw [e]
  exact ⟨_, _, _, rfl, ha, ha2⟩
theorem sided_t {l : List Int} (hb : Byt l) (at_ sd : Int) (n : Nat) (h0 : 0 ≤ at_) (h1 : at_ ≤ n) (hn : n ≤ 800) :
    ∃ x y a s, spec_l1Cur_sided.f l at_ sd = some (x, y, a, s) ∧ 0 ≤ a ∧ a ≤ ((n + 4 : Nat) : Int) := by
  unfold spec_l1Cur_sided.f
  obtain ⟨x, a, s, e, ha, ha2, _⟩ := among_t hb at_ sd [1, 2, 3, 4, 5, 8, 0, (-1), 4611686018427387904] (by decide) n h0 h1 (by omega)
  rw [e]
  simp only [bs]
  obtain ⟨y, a', s', e', ha', ha2', _⟩ := among_t hb a s [1, 2, 3, 3, 4, 5, 16, 0] (by decide) (n + 2) ha ha2 (by omega)
  rw [e']
  exact ⟨_, _, _, _, rfl, ha', ha2'⟩
theorem hSame_l (l : List Int) (hl : l.length < 2 ^ 62) : ∀ n i k, i + n = l.length → n < k → laws_hSame.l0 k l l (l.length : Int) (i : Int) = some true := by
  intro n
  induction n with
  | zero =>
    intro i k hi hk
    obtain ⟨k, rfl⟩ : ∃ m, k = m + 1 := ⟨k - 1, by omega⟩
    rw [laws_hSame.l0, if_neg (by omega)]
  | succ n ih =>
    intro i k hi hk
    obtain ⟨k, rfl⟩ : ∃ m, k = m + 1 := ⟨k - 1, by omega⟩
    rw [laws_hSame.l0, if_pos (by omega), if_pos (by omega), if_pos (by omega), if_pos (by omega), if_pos rfl, show ((i : Int) + 1) = ((i + 1 : Nat) : Int) from rfl, wrapn _ (by omega)]
    exact ih (i + 1) k (by omega) (by omega)
theorem hSame_self (l : List Int) (hl : l.length < 2 ^ 62) (k : Nat) (hk : l.length < k) : laws_hSame.f k l l = some true := by
  unfold laws_hSame.f
  rw [if_pos rfl]
  exact hSame_l l hl l.length 0 k (by omega) hk
theorem impl_ChaseLeft_no (r c : Int) (own : Bool) (L f : Int) (h : ¬ GridOk r c) (k : Nat) : impl_ChaseLeft.f k r c own L f = some (0, false) := by
  unfold impl_ChaseLeft.f; rw [gridOf_no own h]; rfl
theorem impl_ChaseLeft_yes (r c : Nat) (own : Bool) (L f : Nat) (h : GridOk (r : Int) (c : Int)) (hr : c * r ≤ 16) (hc : c ≤ 16) (hr' : r ≤ 16) (h0 : 1 ≤ r) (hL : L < 2 ^ (c * r)) (hf : f < 2 ^ c) (k : Nat) (hk : r < k) :
    impl_ChaseLeft.f k (r : Int) (c : Int) own (L : Int) (f : Int) = some ((((cr c own L f r).2 : Nat) : Int), true) := by
  have hp : (2 : Nat) ^ (c * r) ≤ 2 ^ 16 := Nat.pow_le_pow_right (by decide) hr
  have hp2 : (2 : Nat) ^ c ≤ 2 ^ 16 := Nat.pow_le_pow_right (by decide) hc
  unfold impl_ChaseLeft.f
  rw [gridOf_yes own h]
  simp only [bs, if_true]
  rw [isBoard_f r c own _ hr, decide_eq_true (show 0 ≤ (L : Int) ∧ (L : Int) ≤ ((2 ^ (c * r) - 1 : Nat) : Int) by omega)]
  simp only [bs, if_true]
  rw [isFirst_f r c own _ hc, decide_eq_true (show 0 ≤ (f : Int) ∧ (f : Int) ≤ ((2 ^ c - 1 : Nat) : Int) by omega)]
  simp only [bs, if_true]
  rw [chase_f r c own L f hc hr hr' h0 (by omega) hf k hk, bs]
theorem lights_j {l : List Int} (hb : Byt l) (r c : Int) (b : Bool) (hg : b = true ∨ GridOk r c) (at_ sd : Int) (n : Nat) (h0 : 0 ≤ at_) (h1 : at_ ≤ n) (hn : n ≤ 700) :
    ∃ x y a s, spec_l1Cur_lights3.j0 1 r c b l at_ sd = some (x, y, a, s) ∧ 0 ≤ a ∧ a ≤ ((n + 10 : Nat) : Int) := by
  rw [spec_l1Cur_lights3.j0]
  by_cases hb1 : b = true
  · rw [if_pos hb1]
    obtain ⟨x, a, s, e, ha, ha2, _⟩ := among_t hb at_ sd [(-1), 0, 65536, 4611686018427387904] (by decide) n h0 h1 (by omega)
    rw [e]
    simp only [bs]
    obtain ⟨y, a', s', e', ha', ha2', _⟩ := among_t hb a s [(-1), 0, 1, 65536] (by decide) (n + 2) ha ha2 (by omega)
    rw [e']
    simp only [bs]
    exact ⟨_, _, _, _, rfl, ha', by omega⟩
  · rw [if_neg hb1]
    have hg2 : GridOk r c := hg.resolve_left hb1
    obtain ⟨r, c, rfl, rfl, g1, g2, g3, g4, g5⟩ := grid_nat hg2
    have hpos := Nat.two_pow_pos (c * r)
    obtain ⟨x, a, s, e, ha, ha2, _⟩ := pick_t hb at_ sd 256 n h0 h1 (by omega)
    rw [e]
    simp only [bs]
    obtain ⟨y, a', s', e', ha', ha2', _⟩ := pick_t hb a s 256 (n + 2) ha ha2 (by omega)
    rw [e']
    simp only [bs]
    rw [← Int.natCast_mul, Nat.mul_comm r c, wrapn _ (by omega), if_pos (Int.natCast_nonneg _), shl1 _ (by omega), if_neg (by omega)]
    obtain ⟨t, ht, ht2, ht3⟩ : ∃ t, spec_l1Least.f (c : Int) 8 = some t ∧ 0 ≤ t ∧ t ≤ 8 := by
      unfold spec_l1Least.f
      split
      · exact ⟨_, rfl, by omega, by omega⟩
      · exact ⟨_, rfl, by omega, by omega⟩
    rw [ht]
    simp only [bs]
    rw [if_pos ht2]
    obtain ⟨z, a'', s'', e'', ha'', ha2'', _⟩ := pick_t hb a' s' (shl .i64 1 t) (n + 4) ha' ha2' (by omega)
    rw [e'']
    simp only [bs]
    exact ⟨_, _, _, _, rfl, ha'', by omega⟩
theorem lights_t {l : List Int} (hb : Byt l) (r c : Int) (at_ sd : Int) (n : Nat) (h0 : 0 ≤ at_) (h1 : at_ ≤ n) (hn : n ≤ 600) :
    ∃ x y a s, spec_l1Cur_lights3.f 1 l at_ sd r c = some (x, y, a, s) ∧ 0 ≤ a ∧ a ≤ ((n + 12 : Nat) : Int) := by
  unfold spec_l1Cur_lights3.f
  by_cases hg : GridOk r c
  · rw [csGrid_yes hg]
    simp only [bs, if_true]
    obtain ⟨x, a, s, e, ha, ha2⟩ := one_t hb at_ sd 12 n h0 h1 (by omega)
    rw [e]
    simp only [bs]
    exact lights_j hb r c x (.inr hg) a s (n + 2) ha ha2 (by omega)
  · rw [csGrid_no hg]
    simp only [bs, Bool.false_eq_true, if_false]
    obtain ⟨x, y, a, s, e, ha, ha2⟩ := lights_j hb r c true (.inl rfl) at_ sd n h0 h1 (by omega)
    exact ⟨x, y, a, s, e, ha, by omega⟩
theorem drawCP_t {l : List Int} (hb : Byt l) : ∃ r c own L f, spec_DrawChasePresses.f l = some (r, c, own, L, f) := by
  unfold spec_DrawChasePresses.f
  obtain ⟨x, y, a, s, e, ha, ha2⟩ := sided_t hb 0 0 0 (by omega) (by omega) (by omega)
  rw [e]
  simp only [bs]
  obtain ⟨L, f, a', s', e', ha', ha2'⟩ := lights_t hb x y a s 4 ha ha2 (by omega)
  rw [e']
  simp only [bs]
  obtain ⟨z, a'', s'', e'', _⟩ := one_t hb a' s' 3 16 ha' (by omega) (by omega)
  rw [e'']
  exact ⟨_, _, _, _, _, rfl⟩
theorem drawSBC_t {l : List Int} (hb : Byt l) : ∃ r c own L, spec_DrawSolveByChase.f l = some (r, c, own, L) := by
  unfold spec_DrawSolveByChase.f spec_DrawFirstRows.f
  obtain ⟨x, y, a, s, e, ha, ha2⟩ := sided_t hb 0 0 0 (by omega) (by omega) (by omega)
  rw [e]
  simp only [bs]
  obtain ⟨L, f, a', s', e', ha', ha2'⟩ := lights_t hb x y a s 4 ha ha2 (by omega)
  rw [e']
  simp only [bs]
  obtain ⟨z, a'', s'', e'', _⟩ := one_t hb a' s' 3 16 ha' (by omega) (by omega)
  rw [e'']
  exact ⟨_, _, _, _, rfl⟩
/-- What both tell of a chase. -/
theorem chases_all (r c : Int) (own : Bool) (L f : Int) (k : Nat) (hk : 20 ≤ k) :
    (impl_ChasePresses.f k r c own L f = some (0, false) ∧ spec_ChasePresses.f k r c own L f = some (0, false) ∧ impl_ChaseLeft.f k r c own L f = some (0, false) ∧ spec_ChaseLeft.f k r c own L f = some (0, false)) ∨
    ∃ r' c' L' f' : Nat, r = (r' : Int) ∧ c = (c' : Int) ∧ L = (L' : Int) ∧ f = (f' : Int) ∧ GridOk (r' : Int) (c' : Int) ∧ 1 ≤ r' ∧ r' ≤ 16 ∧ 1 ≤ c' ∧ c' ≤ 16 ∧ c' * r' ≤ 16 ∧ L' < 2 ^ (c' * r') ∧ f' < 2 ^ c' ∧
      impl_ChasePresses.f k r c own L f = some (((prs c' own L' f' r' : Nat) : Int), true) ∧ spec_ChasePresses.f k r c own L f = some (((prs c' own L' f' r' : Nat) : Int), true) ∧
      impl_ChaseLeft.f k r c own L f = some ((((cr c' own L' f' r').2 : Nat) : Int), true) ∧ spec_ChaseLeft.f k r c own L f = some ((((cr c' own L' f' r').2 : Nat) : Int), true) := by
  unfold impl_ChasePresses.f spec_ChasePresses.f impl_ChaseLeft.f spec_ChaseLeft.f
  by_cases h : GridOk r c
  · obtain ⟨r, c, rfl, rfl, h1, h2, h3, h4, h5⟩ := grid_nat h
    have hp : (2 : Nat) ^ (c * r) ≤ 2 ^ 16 := Nat.pow_le_pow_right (by decide) h5
    have hq := Nat.two_pow_pos (c * r)
    have hq2 := Nat.two_pow_pos c
    rw [csTask_yes r c _ _ h h5 h4, gridOf_yes own h]
    simp only [bs, if_true]
    rw [isBoard_f r c own _ h5]
    simp only [bs]
    by_cases g1 : 0 ≤ L ∧ L ≤ ((2 ^ (c * r) - 1 : Nat) : Int)
    · rw [decide_eq_true g1]
      simp only [if_true, Bool.true_and]
      rw [isFirst_f r c own _ h4]
      simp only [bs]
      by_cases g2 : 0 ≤ f ∧ f ≤ ((2 ^ c - 1 : Nat) : Int)
      · rw [decide_eq_true g2]
        simp only [if_true]
        obtain ⟨L, rfl⟩ := Int.eq_ofNat_of_zero_le g1.1
        obtain ⟨f, rfl⟩ := Int.eq_ofNat_of_zero_le g2.1
        rw [csChase_f r c own L f h4 h5 h2 h1 (by omega) (by omega) k (by omega), chase_f r c own L f h4 h5 h2 h1 (by omega) (by omega) k (by omega)]
        simp only [bs]
        exact .inr ⟨r, c, L, f, rfl, rfl, rfl, rfl, h, h1, h2, h3, h4, h5, by omega, by omega, (by first | trivial | rfl), (by first | trivial | rfl), (by first | trivial | rfl), (by first | trivial | rfl)⟩
      · rw [decide_eq_false g2]
        simp only [Bool.false_eq_true, if_false]
        exact .inl ⟨(by first | trivial | rfl), (by first | trivial | rfl), (by first | trivial | rfl), (by first | trivial | rfl)⟩
    · rw [decide_eq_false g1]
      simp only [Bool.false_eq_true, if_false, Bool.false_and]
      exact .inl ⟨(by first | trivial | rfl), (by first | trivial | rfl), (by first | trivial | rfl), (by first | trivial | rfl)⟩
  · rw [csTask_no L f h, gridOf_no own h]
    simp only [bs, Bool.false_eq_true, if_false]
    exact .inl ⟨(by first | trivial | rfl), (by first | trivial | rfl), (by first | trivial | rfl), (by first | trivial | rfl)⟩
/-- What both tell of solving by a chase. -/
theorem sbc_all (r c : Int) (own : Bool) (L : Int) (k : Nat) (hk : 70000 ≤ k) :
    (impl_SolveByChase.f k r c own L = some (0, false) ∧ spec_SolveByChase.f k r c own L = some (0, false) ∧ impl_FirstRows.f k r c own L = some ([], false) ∧ spec_FirstRows.f k r c own L = some ([], false)) ∨
    ∃ r' c' L' : Nat, r = (r' : Int) ∧ c = (c' : Int) ∧ L = (L' : Int) ∧ GridOk (r' : Int) (c' : Int) ∧ 1 ≤ r' ∧ r' ≤ 16 ∧ 1 ≤ c' ∧ c' ≤ 8 ∧ c' * r' ≤ 16 ∧ L' < 2 ^ (c' * r') ∧
      impl_FirstRows.f k r c own L = some (zs (firsts r' c' own L'), true) ∧ spec_FirstRows.f k r c own L = some (zs (firsts r' c' own L'), true) ∧
      ((firsts r' c' own L' = [] ∧ impl_SolveByChase.f k r c own L = some (0, false) ∧ spec_SolveByChase.f k r c own L = some (0, false)) ∨
       ∃ f t, firsts r' c' own L' = f :: t ∧ impl_SolveByChase.f k r c own L = some (((prs c' own L' f r' : Nat) : Int), true) ∧ spec_SolveByChase.f k r c own L = some (((prs c' own L' f r' : Nat) : Int), true)) := by
  unfold impl_SolveByChase.f spec_SolveByChase.f
  by_cases h : GridOk r c
  · obtain ⟨r, c, rfl, rfl, h1, h2, h3, h4, h5⟩ := grid_nat h
    have hp : (2 : Nat) ^ (c * r) ≤ 2 ^ 16 := Nat.pow_le_pow_right (by decide) h5
    have hp2 : (2 : Nat) ^ c ≤ 2 ^ 16 := Nat.pow_le_pow_right (by decide) h4
    have hq := Nat.two_pow_pos (c * r)
    obtain ⟨k, rfl⟩ : ∃ m, k = m + 1 := ⟨k - 1, by omega⟩
    rw [csTask_yes r c L 0 h h5 h4, decide_eq_true (p := (0 : Int) ≤ 0 ∧ (0 : Int) ≤ _) ⟨by omega, Int.natCast_nonneg _⟩, Bool.and_true, impl_FirstRows_yes r c own L h h5 h4 h2 h1 (k + 1) (by omega), spec_FirstRows_yes r c own L h h5 h4 h2 h1 (k + 1) (by omega)]
    simp only [bs]
    by_cases g1 : 0 ≤ L ∧ L ≤ ((2 ^ (c * r) - 1 : Nat) : Int)
    · obtain ⟨L, rfl⟩ := Int.eq_ofNat_of_zero_le g1.1
      rw [decide_eq_true g1, if_pos rfl, spec_SolveByChase.j0]
      by_cases g2 : c ≤ 8
      · simp only [if_pos (show (0 ≤ (L : Int) ∧ (L : Int) ≤ ((2 ^ (c * r) - 1 : Nat) : Int)) ∧ c ≤ 8 from ⟨g1, g2⟩), Int.toNat_natCast]
        rw [if_neg (show ¬ decide ((c : Int) > 8) = true by rw [decide_eq_true_eq]; omega), csFirst_f r c own L h4 h5 h2 h1 (by omega) k (by omega)]
        simp only [bs, if_true]
        refine .inr ⟨r, c, L, rfl, rfl, rfl, h, h1, h2, h3, g2, h5, by omega, (by first | trivial | rfl), (by first | trivial | rfl), ?_⟩
        rcases hf : firsts r c own L with _ | ⟨f, t⟩
        · exact .inl ⟨rfl, (by first | trivial | rfl), (by first | trivial | rfl)⟩
        · have hlt : f < 2 ^ c := by
            have : f ∈ firsts r c own L := by rw [hf]; exact List.mem_cons_self ..
            exact List.mem_range.1 (List.mem_filter.1 this).1
          have e3 : rd (zs (f :: t)) 0 = (f : Int) := rd_zs (f :: t) 0
          have e4 : 0 < ((zs (f :: t)).length : Int) := by rw [zs_length, List.length_cons]; omega
          rw [if_neg (by omega), if_pos e4, if_neg (by omega), if_pos e4, e3, impl_ChasePresses_yes r c own L f h h5 h4 h2 h1 (by omega) hlt (k + 1) (by omega), csChase_f r c own L f h4 h5 h2 h1 (by omega) hlt k (by omega)]
          simp only [bs]
          exact .inr ⟨f, t, rfl, (by first | trivial | rfl), (by first | trivial | rfl)⟩
      · simp only [if_neg (show ¬ ((0 ≤ (L : Int) ∧ (L : Int) ≤ ((2 ^ (c * r) - 1 : Nat) : Int)) ∧ c ≤ 8) from fun g => g2 g.2)]
        rw [if_pos (show decide ((c : Int) > 8) = true by rw [decide_eq_true_eq]; omega)]
        exact .inl ⟨(by first | trivial | rfl), (by first | trivial | rfl), (by first | trivial | rfl), (by first | trivial | rfl)⟩
    · simp only [if_neg (show ¬ ((0 ≤ L ∧ L ≤ ((2 ^ (c * r) - 1 : Nat) : Int)) ∧ c ≤ 8) from fun g => g1 g.1)]
      rw [decide_eq_false g1]
      simp only [Bool.false_eq_true, if_false]
      rw [spec_SolveByChase.j0, if_pos rfl]
      exact .inl ⟨(by first | trivial | rfl), (by first | trivial | rfl), (by first | trivial | rfl), (by first | trivial | rfl)⟩
  · obtain ⟨k, rfl⟩ : ∃ m, k = m + 1 := ⟨k - 1, by omega⟩
    rw [csTask_no L 0 h, impl_FirstRows_no r c own L h, spec_FirstRows_no r c own L h]
    simp only [bs, Bool.false_eq_true, if_false]
    rw [spec_SolveByChase.j0, if_pos rfl]
    exact .inl ⟨(by first | trivial | rfl), (by first | trivial | rfl), (by first | trivial | rfl), (by first | trivial | rfl)⟩
theorem isSet_pair (l : List Int) (own : Bool) (a b : Int) : impl_isSet.f l own [a, b] = some (goodB l && (decide (0 ≤ a ∧ a ≤ ((2 ^ l.length - 1 : Nat) : Int)) && decide (0 ≤ b ∧ b ≤ ((2 ^ l.length - 1 : Nat) : Int)))) := by
  unfold impl_isSet.f noSet
  simp only [List.any_cons, List.any_nil, Bool.or_false, Bool.not_not, Bool.not_or]
theorem gridG_fin : ∀ r c : Fin 17, ∀ own : Bool, 1 ≤ r.val → 1 ≤ c.val → r.val * c.val ≤ 16 → impl_GridGraph.f 120 (r.val : Int) (c.val : Int) own = some (zs (Grd.gridL r.val c.val), own, true) := by decide +kernel
theorem gridG_good : ∀ r c : Fin 17, 1 ≤ r.val → 1 ≤ c.val → r.val * c.val ≤ 16 → goodB (zs (Grd.gridL r.val c.val)) = true := by decide +kernel
theorem gridG_f (r c : Nat) (own : Bool) (hr0 : 1 ≤ r) (hr : r ≤ 16) (hc0 : 1 ≤ c) (hc : c ≤ 16) (h : c * r ≤ 16) (k : Nat) (hk : 120 ≤ k) : impl_GridGraph.f k (r : Int) (c : Int) own = some (zs (Grd.gridL r c), own, true) := by
  have h0 := gridG_fin ⟨r, by omega⟩ ⟨c, by omega⟩ own hr0 hc0 (by show r * c ≤ 16; rw [Nat.mul_comm]; exact h)
  obtain ⟨d, rfl⟩ := Nat.exists_eq_add_of_le hk
  have hd : ∀ d, impl_GridGraph.f (120 + d) (r : Int) (c : Int) own = some (zs (Grd.gridL r c), own, true) := fun d => by
    induction d with
    | zero => exact h0
    | succ d ih => exact impl_GridGraph.mono _ _ _ _ _ ih
  exact hd d
theorem gridG_g (r c : Nat) (hr0 : 1 ≤ r) (hr : r ≤ 16) (hc0 : 1 ≤ c) (hc : c ≤ 16) (h : c * r ≤ 16) : goodB (zs (Grd.gridL r c)) = true :=
  gridG_good ⟨r, by omega⟩ ⟨c, by omega⟩ hr0 hc0 (by show r * c ≤ 16; rw [Nat.mul_comm]; exact h)
theorem effTo_mp (m : List Nat) (own : Bool) (x : Nat) : ∀ i, i ≤ m.length → effTo m own x i = Ker.mp (Sog.tgls m own) x i
  | 0, _ => rfl
  | i + 1, h => by
    have ih := effTo_mp m own x i (by omega)
    unfold effTo Ker.mp
    rw [ih, Sog.tgls_get m own (by omega)]
    cases x.testBit i with
    | true => rfl
    | false => exact Nat.xor_zero _
/-- Presses on a grid. -/
theorem gridP_f (r c : Nat) (own : Bool) (hr0 : 1 ≤ r) (hr : r ≤ 16) (hc0 : 1 ≤ c) (hc : c ≤ 16) (h : c * r ≤ 16) (L x : Nat) (hL : L < 2 ^ (c * r)) (hx : x < 2 ^ (c * r)) (k : Nat) (hk : 20 ≤ k) :
    impl_PressAll.f k (zs (Grd.gridL r c)) own (L : Int) (x : Int) = some (((L ^^^ Grd.gx c r own x : Nat) : Int), true) := by
  have hp : (2 : Nat) ^ (c * r) ≤ 2 ^ 16 := Nat.pow_le_pow_right (by decide) h
  have hlen : (Grd.gridL r c).length = c * r := by rw [Grd.gridL_length, Nat.mul_comm]
  obtain ⟨m, hm, hg⟩ := good_zs (gridG_g r c hr0 hr hc0 hc h)
  obtain rfl := zs_inj hm
  have hgx := Grd.gx_lt (c := c) (r := r) (own := own) x
  unfold impl_PressAll.f
  rw [isSet_pair, gridG_g r c hr0 hr hc0 hc h, zs_length, hlen, decide_eq_true (show 0 ≤ (L : Int) ∧ (L : Int) ≤ ((2 ^ (c * r) - 1 : Nat) : Int) by omega), decide_eq_true (show 0 ≤ (x : Int) ∧ (x : Int) ≤ ((2 ^ (c * r) - 1 : Nat) : Int) by omega)]
  simp only [bs, Bool.and_self, if_true]
  rw [eff_f _ hg own x (by omega) k (by rw [hlen]; omega)]
  simp only [bs]
  have e : eff (Grd.gridL r c) own x = Grd.gx c r own x := by
    unfold eff
    rw [effTo_mp _ _ _ _ (Nat.le_refl _), Grd.gridL_length]
    exact Grd.mp_grid hr0 hr hc0 hc (by rw [Nat.mul_comm]; exact h) (by rw [Nat.mul_comm]; exact hx)
  rw [e, xorn _ _ (by omega) (by omega)]
theorem gridC_f (r c : Nat) (own : Bool) (hr0 : 1 ≤ r) (hr : r ≤ 16) (hc0 : 1 ≤ c) (hc : c ≤ 16) (h : c * r ≤ 16) (L : Nat) (hL : L < 2 ^ (c * r)) :
    impl_CanSolve.f (zs (Grd.gridL r c)) own (L : Int) = some (decide (firsts r c own L ≠ []), true) ∧ impl_CountSolutions.f (zs (Grd.gridL r c)) own (L : Int) = some ((((firsts r c own L).length : Nat) : Int), true) := by
  have hlen : (Grd.gridL r c).length = c * r := by rw [Grd.gridL_length, Nat.mul_comm]
  have hok : Exq.okS (zs (Grd.gridL r c)) (L : Int) = true := by
    unfold Exq.okS
    rw [gridG_g r c hr0 hr hc0 hc h, zs_length, hlen, decide_eq_true (show 0 ≤ (L : Int) ∧ (L : Int) ≤ ((2 ^ (c * r) - 1 : Nat) : Int) by omega)]; rfl
  have hs : Exq.slvd (zs (Grd.gridL r c)) own (L : Int) = true ↔ Ker.Im (Sog.tgls (Grd.gridL r c) own) L := by
    unfold Exq.slvd Exq.lef
    rw [Exq.efs_zs, decide_eq_true_eq, Int.toNat_natCast]
    exact Ker.refP_solved _
  obtain ⟨h1, h2⟩ := Grd.grid_count (own := own) hr0 hr hc0 hc (by rw [Nat.mul_comm]; exact h) hL
  unfold impl_CanSolve.f impl_CountSolutions.f Exq.canF Exq.cntF
  rw [if_pos hok, if_pos hok, Exq.efs_zs]
  cases hb : Exq.slvd (zs (Grd.gridL r c)) own (L : Int) with
  | true =>
    have h3 := h1 (hs.1 hb)
    have hne : firsts r c own L ≠ [] := fun e => by
      rw [e, List.length_nil] at h3
      exact absurd h3 (Nat.ne_of_lt (Nat.two_pow_pos _))
    rw [decide_eq_true hne, h3]
    exact ⟨rfl, rfl⟩
  | false =>
    have h3 := h2 fun hi => by rw [hs.2 hi] at hb; cases hb
    rw [h3]
    exact ⟨rfl, rfl⟩

end Go.Proofs.Ytgnjndkbccakgaa.LemFnChaseIsElimination
