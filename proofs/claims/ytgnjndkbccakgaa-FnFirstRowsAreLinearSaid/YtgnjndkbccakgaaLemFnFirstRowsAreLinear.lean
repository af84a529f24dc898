/- Lemmas on the printed functions of FnFirstRowsAreLinear: what loops and calls come to, at natural numbers in range. -/
import Derived.Test.YtgnjndkbccakgaaPFnFirstRowsAreLinearx
import Derived.Test.YtgnjndkbccakgaaBit
import Derived.Test.YtgnjndkbccakgaaGra2
import Derived.Test.YtgnjndkbccakgaaPop
import Derived.Test.YtgnjndkbccakgaaCha
import Derived.Test.YtgnjndkbccakgaaRow2
namespace Go.Proofs.Ytgnjndkbccakgaa.LemFnFirstRowsAreLinear
open Go.RowKit Go.Proofs.Ytgnjndkbccakgaa.PFnFirstRowsAreLinear Go.Proofs.YtgnjndkbccakgaaW.PrintWords Go.Proofs.YtgnjndkbccakgaaW.PrintLast Go.Proofs.Ytgnjndkbccakgaa.Bit Go.Proofs.Ytgnjndkbccakgaa.Row Go.Proofs.Ytgnjndkbccakgaa.Lin Go.Proofs.Ytgnjndkbccakgaa.Gra Go.Proofs.Ytgnjndkbccakgaa.Pop

theorem prod_i {lo r c : Int} (h0 : 0 ≤ lo) (hr : lo ≤ r ∧ r ≤ 16) (hc : lo ≤ c ∧ c ≤ 16) : wrap64 (r * c) = r * c := by
  have h1 : 0 ≤ r * c := Int.mul_nonneg (by omega) (by omega)
  have h2 : r * c ≤ 16 * 16 := Int.mul_le_mul hr.2 hc.2 (by omega) (by omega)
  unfold wrap64
  omega
theorem sides_no {lo r c : Int} (h0 : 0 ≤ lo) (h : ¬ ((lo ≤ r ∧ r ≤ 16) ∧ (lo ≤ c ∧ c ≤ 16) ∧ r * c ≤ 16)) : spec_grSides.f r c lo = some false ∧ impl_isGrid.f r c lo = some false := by
  unfold spec_grSides.f spec_l1In.f impl_isGrid.f impl_in.f
  simp only [ge_iff_le]
  by_cases h1 : lo ≤ r ∧ r ≤ 16
  · rw [if_pos h1.1, decide_eq_true h1.2]
    simp only [bs, if_true]
    by_cases h2 : lo ≤ c ∧ c ≤ 16
    · rw [if_pos h2.1, decide_eq_true h2.2, prod_i h0 h1 h2]
      have h3 : ¬ r * c ≤ 16 := fun h3 => h ⟨h1, h2, h3⟩
      rw [decide_eq_false h3]
      exact ⟨rfl, rfl⟩
    · by_cases h3 : lo ≤ c
      · have h4 : ¬ c ≤ 16 := by omega
        rw [if_pos h3, decide_eq_false h4]; exact ⟨rfl, rfl⟩
      · rw [if_neg h3]; exact ⟨rfl, rfl⟩
  · by_cases h3 : lo ≤ r
    · have h4 : ¬ r ≤ 16 := by omega
      rw [if_pos h3, decide_eq_false h4]; exact ⟨rfl, rfl⟩
    · rw [if_neg h3]; exact ⟨rfl, rfl⟩
theorem sides_yes {lo r c : Int} (h0 : 0 ≤ lo) (h : (lo ≤ r ∧ r ≤ 16) ∧ (lo ≤ c ∧ c ≤ 16) ∧ r * c ≤ 16) : spec_grSides.f r c lo = some true ∧ impl_isGrid.f r c lo = some true := by
  obtain ⟨h1, h2, h3⟩ := h
  unfold spec_grSides.f spec_l1In.f impl_isGrid.f impl_in.f
  simp only [ge_iff_le]
  rw [if_pos h1.1, decide_eq_true h1.2, if_pos h2.1, decide_eq_true h2.2, prod_i h0 h1 h2, decide_eq_true h3]
  exact ⟨rfl, rfl⟩
theorem whole_f (c : Nat) (h : c < 63) : impl_whole.f (c : Int) = some ((2 ^ c - 1 : Nat) : Int) := by
  unfold impl_whole.f
  rw [if_pos (Int.natCast_nonneg _), wholen c h]
theorem in_f (a b c : Int) : impl_in.f a b c = some (decide (b ≤ a ∧ a ≤ c)) := by
  unfold impl_in.f
  split
  · rename_i h; simp [h]
  · rename_i h; simp [h]
theorem l1In_f (a b c : Int) : spec_l1In.f a b c = some (decide (b ≤ a ∧ a ≤ c)) := by
  unfold spec_l1In.f
  split
  · rename_i h; simp [show b ≤ a from h]
  · rename_i h; simp [show ¬ b ≤ a from h]
theorem csToggles_f (c : Nat) (hc : c ≤ 16) (own : Bool) (row : Nat) (h : row < 2 ^ c) : spec_csToggles.f (c : Int) own (row : Int) = some ((tog c own row : Nat) : Int) := by
  have hp : (2 : Nat) ^ c ≤ 2 ^ 16 := Nat.pow_le_pow_right (by decide) hc
  have h1 : row < 2 ^ 16 := by omega
  have h2 : row * 2 ^^^ row / 2 < 2 ^ 63 := Nat.xor_lt_two_pow (by omega) (by omega)
  have h3 : row * 2 ^^^ row / 2 ^^^ row < 2 ^ 63 := Nat.xor_lt_two_pow h2 (by omega)
  have h4 := wholen c (by omega)
  unfold spec_csToggles.f
  rw [if_pos (Int.natCast_nonneg _), if_pos (Int.natCast_nonneg _), h4, twice row (by omega), half, xorn _ _ (by omega) (by omega), xorn _ _ h2 (by omega), andn _ _ h3 (by omega), andn _ _ h2 (by omega), tog_own h, tog_not]
  cases own <;> rfl
theorem rowToggles_f (c : Nat) (hc : c ≤ 16) (own : Bool) (row : Nat) (h : row < 2 ^ c) : impl_rowToggles.f (c : Int) own (row : Int) = some ((tog c own row : Nat) : Int) := by
  have hp : (2 : Nat) ^ c ≤ 2 ^ 16 := Nat.pow_le_pow_right (by decide) hc
  have h1 : row < 2 ^ 16 := by omega
  have h2 : row * 2 ^^^ row / 2 < 2 ^ 63 := Nat.xor_lt_two_pow (by omega) (by omega)
  have h3 : (row * 2 ^^^ row / 2) &&& (2 ^ c - 1) < 2 ^ 63 := Nat.lt_of_lt_of_le (mask_lt _ _) (by omega)
  unfold impl_rowToggles.f
  rw [whole_f c (by omega), twice row (by omega), half, xorn _ _ (by omega) (by omega)]
  simp only [bs]
  rw [andn _ _ h2 (by omega), xorn _ _ h3 (by omega)]
  unfold tog
  cases own <;> simp
theorem csRow_f (c L r : Nat) (hc : c ≤ 16) (hr : c * r ≤ 16) (hL : L < 2 ^ 63) : spec_csRow.f (c : Int) (L : Int) (r : Int) = some ((rowOf c L r : Nat) : Int) := by
  have hp : (2 : Nat) ^ c ≤ 2 ^ 16 := Nat.pow_le_pow_right (by decide) hc
  have hd : L / 2 ^ (c * r) < 2 ^ 63 := Nat.lt_of_le_of_lt (Nat.div_le_self _ _) hL
  unfold spec_csRow.f
  rw [← Int.natCast_mul, wrapn _ (by omega), if_pos (Int.natCast_nonneg _), if_pos (Int.natCast_nonneg _), shrn L _ hL, wholen c (by omega), andn _ _ hd (by omega)]
  rfl
theorem csChase_l (rows c : Nat) (own : Bool) (L first : Nat) (hc : c ≤ 16) (hr : c * rows ≤ 16) (hr' : rows ≤ 16) (hL : L < 2 ^ 63) (hf : first < 2 ^ c) : ∀ n r k (left : Int), r + n = rows → n < k → (n = 0 → left = ((cr c own L first rows).2 : Nat)) →
    spec_csChase.l0 k (rows : Int) (c : Int) own (L : Int) (prs c own L first r : Nat) ((cr c own L first r).2 : Nat) ((cr c own L first r).1 : Nat) left (r : Int) = some (((prs c own L first rows : Nat) : Int), (((cr c own L first rows).2 : Nat) : Int)) := by
  intro n
  induction n with
  | zero =>
    intro r k left hn hk hl
    obtain ⟨k, rfl⟩ : ∃ m, k = m + 1 := ⟨k - 1, by omega⟩
    obtain rfl : r = rows := by omega
    rw [spec_csChase.l0, if_neg (by omega), hl rfl]
  | succ n ih =>
    intro r k left hn hk _
    obtain ⟨k, rfl⟩ : ∃ m, k = m + 1 := ⟨k - 1, by omega⟩
    have hp : (2 : Nat) ^ c ≤ 2 ^ 16 := Nat.pow_le_pow_right (by decide) hc
    have hcr : c * (r + 1) ≤ 16 := Nat.le_trans (Nat.mul_le_mul_left _ (by omega)) hr
    have hcr' : c * r ≤ 16 := Nat.le_trans (Nat.mul_le_mul_left _ (by omega)) hr
    obtain ⟨b1, b2⟩ := cr_lt own L hf r
    have b3 := tog_lt own b2
    have b4 : rowOf c L r < 2 ^ c := mask_lt _ _
    have b5 := prs_lt own L hf r
    have b6 := shift_lt (r := r) b2
    have hp1 : (2 : Nat) ^ (c * (r + 1)) ≤ 2 ^ 16 := Nat.pow_le_pow_right (by decide) hcr
    have hp2 : (2 : Nat) ^ (c * r) ≤ 2 ^ 16 := Nat.pow_le_pow_right (by decide) hcr'
    have e := ih (r + 1) k (((cr c own L first (r + 1)).2 : Nat) : Int) (by omega) (by omega) (fun h => by rw [show r + 1 = rows by omega])
    rw [spec_csChase.l0, if_pos (by omega), ← Int.natCast_mul, wrapn (c * r) (by omega), if_pos (Int.natCast_nonneg _), csRow_f c L r hc hcr' hL, csToggles_f c hc own _ b2]
    simp only [bs]
    have x1 : rowOf c L r ^^^ tog c own (cr c own L first r).2 < 2 ^ 63 := Nat.xor_lt_two_pow (by omega) (by omega)
    rw [xorn _ _ (by omega) (by omega), xorn _ _ x1 (by omega), shln _ _ (by omega) (by omega), orn _ _ (by omega) (by omega), show ((r : Int) + 1) = ((r + 1 : Nat) : Int) from rfl, wrapn _ (by omega), x3]
    exact e
/-- The reference's chase. -/
theorem csChase_f (rows c : Nat) (own : Bool) (L first : Nat) (hc : c ≤ 16) (hr : c * rows ≤ 16) (hr' : rows ≤ 16) (h0 : 1 ≤ rows) (hL : L < 2 ^ 63) (hf : first < 2 ^ c) (k : Nat) (hk : rows < k) :
    spec_csChase.f k (rows : Int) (c : Int) own (L : Int) (first : Int) = some (((prs c own L first rows : Nat) : Int), (((cr c own L first rows).2 : Nat) : Int)) :=
  csChase_l rows c own L first hc hr hr' hL hf rows 0 k 0 (by omega) hk (fun h => by omega)
theorem chase_l (rows c : Nat) (own : Bool) (L first : Nat) (hc : c ≤ 16) (hr : c * rows ≤ 16) (hr' : rows ≤ 16) (hL : L < 2 ^ 63) (hf : first < 2 ^ c) : ∀ n r k (x : Int), r + 1 + n = rows → n < k →
    impl_grid_chase.l0 k (L : Int) (prs c own L first (r + 1) : Nat) x ((cr c own L first (r + 1)).1 : Nat) ((cr c own L first (r + 1)).2 : Nat) (rows : Int) ((r + 1 : Nat) : Int) (rows : Int) (c : Int) own = some (((prs c own L first rows : Nat) : Int), (((cr c own L first rows).2 : Nat) : Int)) := by
  intro n
  induction n with
  | zero =>
    intro r k x hn hk
    obtain ⟨k, rfl⟩ : ∃ m, k = m + 1 := ⟨k - 1, by omega⟩
    obtain rfl : r + 1 = rows := by omega
    rw [impl_grid_chase.l0, if_neg (by omega)]
  | succ n ih =>
    intro r k x hn hk
    obtain ⟨k, rfl⟩ : ∃ m, k = m + 1 := ⟨k - 1, by omega⟩
    have hp : (2 : Nat) ^ c ≤ 2 ^ 16 := Nat.pow_le_pow_right (by decide) hc
    have hcr : c * (r + 1 + 1) ≤ 16 := Nat.le_trans (Nat.mul_le_mul_left _ (by omega)) hr
    have hcr' : c * (r + 1) ≤ 16 := Nat.le_trans (Nat.mul_le_mul_left _ (by omega)) hr
    obtain ⟨b1, b2⟩ := cr_lt own L hf (r + 1)
    have b3 := tog_lt own b2
    have b4 : rowOf c L (r + 1) < 2 ^ c := mask_lt _ _
    have b5 := prs_lt own L hf (r + 1)
    have b6 := shift_lt (r := r + 1) b2
    have hp1 : (2 : Nat) ^ (c * (r + 1 + 1)) ≤ 2 ^ 16 := Nat.pow_le_pow_right (by decide) hcr
    have hp2 : (2 : Nat) ^ (c * (r + 1)) ≤ 2 ^ 16 := Nat.pow_le_pow_right (by decide) hcr'
    have hd : L / 2 ^ (c * (r + 1)) < 2 ^ 63 := Nat.lt_of_le_of_lt (Nat.div_le_self _ _) hL
    have e := ih (r + 1) k (((cr c own L first (r + 1)).1 : Nat) : Int) (by omega) (by omega)
    rw [impl_grid_chase.l0, if_pos (by omega), if_pos (by omega), ← Int.natCast_mul, Nat.mul_comm (r + 1) c, wrapn (c * (r + 1)) (by omega), if_pos (Int.natCast_nonneg _), whole_f c (by omega), rowToggles_f c hc own _ b2]
    simp only [bs]
    have x1 : rowOf c L (r + 1) ^^^ (cr c own L first (r + 1)).1 < 2 ^ 63 := Nat.xor_lt_two_pow (by omega) (by omega)
    rw [shrn L _ hL, andn _ _ hd (by omega), show L / 2 ^ (c * (r + 1)) &&& (2 ^ c - 1) = rowOf c L (r + 1) from rfl, xorn _ _ (by omega) (by omega), xorn _ _ x1 (by omega), shln _ _ (by omega) (by omega), orn _ _ (by omega) (by omega), show (((r + 1 : Nat) : Int) + 1) = ((r + 1 + 1 : Nat) : Int) from rfl, wrapn _ (by omega)]
    exact e
/-- The program's chase. -/
theorem chase_f (rows c : Nat) (own : Bool) (L first : Nat) (hc : c ≤ 16) (hr : c * rows ≤ 16) (hr' : rows ≤ 16) (h0 : 1 ≤ rows) (hL : L < 2 ^ 63) (hf : first < 2 ^ c) (k : Nat) (hk : rows < k) :
    impl_grid_chase.f k (rows : Int) (c : Int) own (L : Int) (first : Int) = some (((prs c own L first rows : Nat) : Int), (((cr c own L first rows).2 : Nat) : Int)) := by
  obtain ⟨k, rfl⟩ : ∃ m, k = m + 1 := ⟨k - 1, by omega⟩
  have hp : (2 : Nat) ^ c ≤ 2 ^ 16 := Nat.pow_le_pow_right (by decide) hc
  have b3 := tog_lt own hf
  have b4 : rowOf c L 0 < 2 ^ c := mask_lt _ _
  have hd : L / 2 ^ (c * 0) < 2 ^ 63 := Nat.lt_of_le_of_lt (Nat.div_le_self _ _) hL
  have e := chase_l rows c own L first hc hr hr' hL hf (rows - 1) 0 k 0 (by omega) (by omega)
  unfold impl_grid_chase.f
  rw [impl_grid_chase.l0, if_pos (by omega), if_neg (by omega), show (0 : Int) * (c : Int) = ((c * 0 : Nat) : Int) from by simp, wrapn (c * 0) (by omega), if_pos (Int.natCast_nonneg _), whole_f c (by omega), rowToggles_f c hc own _ hf]
  simp only [bs]
  have x1 : rowOf c L 0 ^^^ 0 < 2 ^ 63 := Nat.xor_lt_two_pow (by omega) (by omega)
  rw [shrn L _ hL, andn _ _ hd (by omega), show L / 2 ^ (c * 0) &&& (2 ^ c - 1) = rowOf c L 0 from rfl, show (0 : Int) = ((0 : Nat) : Int) from rfl, xorn _ _ (by omega) (by omega), xorn _ _ x1 (by omega), shln _ _ (by rw [Nat.mul_zero]; omega) (by omega), orn _ _ (by omega) (by rw [Nat.mul_zero]; omega), show (((0 : Nat) : Int) + 1) = ((0 + 1 : Nat) : Int) from rfl, wrapn _ (by omega)]
  exact e
/-- There is a grid with such sides. -/
def GridOk (r c : Int) : Prop := (1 ≤ r ∧ r ≤ 16) ∧ (1 ≤ c ∧ c ≤ 16) ∧ r * c ≤ 16
theorem csGrid_no {r c : Int} (h : ¬ GridOk r c) : spec_csGrid.f r c = some false := by
  unfold spec_csGrid.f; rw [(sides_no (by omega) h).1]; rfl
theorem csGrid_yes {r c : Int} (h : GridOk r c) : spec_csGrid.f r c = some true := by
  unfold spec_csGrid.f; rw [(sides_yes (by omega) h).1]; rfl
theorem gridOf_no {r c : Int} (own : Bool) (h : ¬ GridOk r c) : impl_gridOf.f r c own = some (r, c, own, false) := by
  unfold impl_gridOf.f; rw [(sides_no (by omega) h).2]; rfl
theorem gridOf_yes {r c : Int} (own : Bool) (h : GridOk r c) : impl_gridOf.f r c own = some (r, c, own, true) := by
  unfold impl_gridOf.f; rw [(sides_yes (by omega) h).2]; rfl
/-- A grid's sides as natural numbers. -/
theorem grid_nat {r c : Int} (h : GridOk r c) : ∃ r' c' : Nat, r = (r' : Int) ∧ c = (c' : Int) ∧ 1 ≤ r' ∧ r' ≤ 16 ∧ 1 ≤ c' ∧ c' ≤ 16 ∧ c' * r' ≤ 16 := by
  obtain ⟨h1, h2, h3⟩ := h
  refine ⟨r.toNat, c.toNat, by omega, by omega, by omega, by omega, by omega, by omega, ?_⟩
  have : ((c.toNat * r.toNat : Nat) : Int) = r * c := by rw [Int.natCast_mul, Int.toNat_of_nonneg (by omega), Int.toNat_of_nonneg (by omega), Int.mul_comm]
  omega
theorem isBoard_f (r c : Nat) (own : Bool) (L : Int) (hr : c * r ≤ 16) : impl_grid_isBoard.f (r : Int) (c : Int) own L = some (decide (0 ≤ L ∧ L ≤ ((2 ^ (c * r) - 1 : Nat) : Int))) := by
  unfold impl_grid_isBoard.f
  rw [← Int.natCast_mul, Nat.mul_comm r c, wrapn _ (by omega), whole_f _ (by omega)]
  simp only [bs]
  rw [in_f]; rfl
theorem isFirst_f (r c : Nat) (own : Bool) (f : Int) (hc : c ≤ 16) : impl_grid_isFirst.f (r : Int) (c : Int) own f = some (decide (0 ≤ f ∧ f ≤ ((2 ^ c - 1 : Nat) : Int))) := by
  unfold impl_grid_isFirst.f
  rw [whole_f _ (by omega)]
  simp only [bs]
  rw [in_f]; rfl
theorem csFirst_l (rows c : Nat) (own : Bool) (L : Nat) (hc : c ≤ 16) (hr : c * rows ≤ 16) (hr' : rows ≤ 16) (h0 : 1 ≤ rows) (hL : L < 2 ^ 63) : ∀ n i k, i + n = 2 ^ c → n + rows < k →
    spec_csFirst.l0 k (rows : Int) (c : Int) own (L : Int) (zs ((List.range i).filter fun f => (cr c own L f rows).2 = 0)) (i : Int) = some (zs (firsts rows c own L)) := by
  have hp : (2 : Nat) ^ c ≤ 2 ^ 16 := Nat.pow_le_pow_right (by decide) hc
  intro n
  induction n with
  | zero =>
    intro i k hi hk
    obtain ⟨k, rfl⟩ : ∃ m, k = m + 1 := ⟨k - 1, by omega⟩
    rw [spec_csFirst.l0, if_pos (Int.natCast_nonneg _), shl1 c (by omega), if_neg (by omega), show i = 2 ^ c by omega]; rfl
  | succ n ih =>
    intro i k hi hk
    obtain ⟨k, rfl⟩ : ∃ m, k = m + 1 := ⟨k - 1, by omega⟩
    have hlen : ((List.range i).filter fun f => (cr c own L f rows).2 = 0).length ≤ i := Nat.le_trans (List.length_filter_le _ _) (by simp)
    have e := ih (i + 1) k (by omega) (by omega)
    rw [List.range_succ, List.filter_append] at e
    rw [spec_csFirst.l0, if_pos (Int.natCast_nonneg _), shl1 c (by omega), if_pos (by omega), csChase_f rows c own L i hc hr hr' h0 hL (by omega) k (by omega)]
    simp only [bs]
    rw [show ((i : Int) + 1) = ((i + 1 : Nat) : Int) from rfl, wrapn _ (by omega)]
    by_cases hz : (cr c own L i rows).2 = 0
    · rw [if_pos (by rw [hz]; rfl), if_pos (by rw [zs_length]; omega)]
      rw [List.filter_cons_of_pos (by simpa using hz), List.filter_nil, zs_append] at e
      exact e
    · rw [if_neg (by omega)]
      rw [List.filter_cons_of_neg (by simpa using hz), List.filter_nil, List.append_nil] at e
      exact e
theorem csFirst_f (rows c : Nat) (own : Bool) (L : Nat) (hc : c ≤ 16) (hr : c * rows ≤ 16) (hr' : rows ≤ 16) (h0 : 1 ≤ rows) (hL : L < 2 ^ 63) (k : Nat) (hk : 2 ^ c + rows < k) :
    spec_csFirst.f k (rows : Int) (c : Int) own (L : Int) = some (zs (firsts rows c own L)) :=
  csFirst_l rows c own L hc hr hr' h0 hL (2 ^ c) 0 k (by omega) hk
theorem firstRows_l (rows c : Nat) (own : Bool) (L : Nat) (hc : c ≤ 16) (hr : c * rows ≤ 16) (hr' : rows ≤ 16) (h0 : 1 ≤ rows) (hL : L < 2 ^ 63) : ∀ n i k, i + n = 2 ^ c → n + rows < k →
    impl_grid_firstRows.l0 k (L : Int) (zs ((List.range i).filter fun f => (cr c own L f rows).2 = 0)) ((2 ^ c : Nat) : Int) (i : Int) (rows : Int) (c : Int) own = some (zs (firsts rows c own L)) := by
  have hp : (2 : Nat) ^ c ≤ 2 ^ 16 := Nat.pow_le_pow_right (by decide) hc
  intro n
  induction n with
  | zero =>
    intro i k hi hk
    obtain ⟨k, rfl⟩ : ∃ m, k = m + 1 := ⟨k - 1, by omega⟩
    rw [impl_grid_firstRows.l0, if_neg (by omega), show i = 2 ^ c by omega]; rfl
  | succ n ih =>
    intro i k hi hk
    obtain ⟨k, rfl⟩ : ∃ m, k = m + 1 := ⟨k - 1, by omega⟩
    have hlen : ((List.range i).filter fun f => (cr c own L f rows).2 = 0).length ≤ i := Nat.le_trans (List.length_filter_le _ _) (by simp)
    have e := ih (i + 1) k (by omega) (by omega)
    rw [List.range_succ, List.filter_append] at e
    rw [impl_grid_firstRows.l0, if_pos (by omega), chase_f rows c own L i hc hr hr' h0 hL (by omega) k (by omega)]
    simp only [bs]
    rw [show ((i : Int) + 1) = ((i + 1 : Nat) : Int) from rfl, wrapn _ (by omega)]
    by_cases hz : (cr c own L i rows).2 = 0
    · rw [if_pos (by rw [hz]; rfl), if_pos (by rw [zs_length]; omega)]
      rw [List.filter_cons_of_pos (by simpa using hz), List.filter_nil, zs_append] at e
      exact e
    · rw [if_neg (by omega)]
      rw [List.filter_cons_of_neg (by simpa using hz), List.filter_nil, List.append_nil] at e
      exact e
theorem firstRows_f (rows c : Nat) (own : Bool) (L : Nat) (hc : c ≤ 16) (hr : c * rows ≤ 16) (hr' : rows ≤ 16) (h0 : 1 ≤ rows) (hL : L < 2 ^ 63) (k : Nat) (hk : 2 ^ c + rows < k) :
    impl_grid_firstRows.f k (rows : Int) (c : Int) own (L : Int) = some (zs (firsts rows c own L)) := by
  unfold impl_grid_firstRows.f
  rw [if_pos (Int.natCast_nonneg _), shl1 c (by omega)]
  exact firstRows_l rows c own L hc hr hr' h0 hL (2 ^ c) 0 k (by omega) hk
theorem spec_FirstRowMap_l (rows c : Nat) (own : Bool) (hc : c ≤ 16) (hr : c * rows ≤ 16) (hr' : rows ≤ 16) (h0 : 1 ≤ rows) : ∀ n i k, i + n = c → n + rows < k →
    spec_FirstRowMap.l0 k (rows : Int) (c : Int) own (zs (fmap rows c own i)) (i : Int) = some (zs (fmap rows c own c), true) := by
  intro n
  induction n with
  | zero =>
    intro i k hi hk
    obtain ⟨k, rfl⟩ : ∃ m, k = m + 1 := ⟨k - 1, by omega⟩
    rw [spec_FirstRowMap.l0, if_neg (by omega), show i = c by omega]
  | succ n ih =>
    intro i k hi hk
    obtain ⟨k, rfl⟩ : ∃ m, k = m + 1 := ⟨k - 1, by omega⟩
    have e := ih (i + 1) k (by omega) (by omega)
    have hlen : (fmap rows c own i).length = i := by simp [fmap]
    have hlt : 2 ^ i < 2 ^ c := Nat.pow_lt_pow_right (by decide) (by omega)
    rw [spec_FirstRowMap.l0, if_pos (by omega), if_pos (by omega), shl1 i (by omega), show (0 : Int) = ((0 : Nat) : Int) from rfl, csChase_f rows c own 0 (2 ^ i) hc hr hr' h0 (by decide) hlt k (by omega)]
    simp only [bs]
    rw [if_pos (by rw [zs_length]; omega), show ((i : Int) + 1) = ((i + 1 : Nat) : Int) from rfl, wrapn _ (by omega)]
    unfold fmap at e ⊢
    rw [List.range_succ, List.map_append, zs_append] at e
    exact e
theorem impl_FirstRowMap_l (rows c : Nat) (own : Bool) (hc : c ≤ 16) (hr : c * rows ≤ 16) (hr' : rows ≤ 16) (h0 : 1 ≤ rows) : ∀ n i k, i + n = c → n + rows < k →
    impl_FirstRowMap.l0 k (zs (fmap rows c own i)) (c : Int) (i : Int) (rows : Int) (c : Int) own = some (zs (fmap rows c own c), true) := by
  intro n
  induction n with
  | zero =>
    intro i k hi hk
    obtain ⟨k, rfl⟩ : ∃ m, k = m + 1 := ⟨k - 1, by omega⟩
    rw [impl_FirstRowMap.l0, if_neg (by omega), show i = c by omega]
  | succ n ih =>
    intro i k hi hk
    obtain ⟨k, rfl⟩ : ∃ m, k = m + 1 := ⟨k - 1, by omega⟩
    have e := ih (i + 1) k (by omega) (by omega)
    have hlen : (fmap rows c own i).length = i := by simp [fmap]
    have hlt : 2 ^ i < 2 ^ c := Nat.pow_lt_pow_right (by decide) (by omega)
    rw [impl_FirstRowMap.l0, if_pos (by omega), if_pos (by omega), shl1 i (by omega), show (0 : Int) = ((0 : Nat) : Int) from rfl, chase_f rows c own 0 (2 ^ i) hc hr hr' h0 (by decide) hlt k (by omega)]
    simp only [bs]
    rw [if_pos (by rw [zs_length]; omega), show ((i : Int) + 1) = ((i + 1 : Nat) : Int) from rfl, wrapn _ (by omega)]
    unfold fmap at e ⊢
    rw [List.range_succ, List.map_append, zs_append] at e
    exact e
theorem spec_FirstRowMap_no (r c : Int) (own : Bool) (h : ¬ GridOk r c) (k : Nat) : spec_FirstRowMap.f k r c own = some ([], false) := by
  unfold spec_FirstRowMap.f; rw [csGrid_no h]; rfl
theorem impl_FirstRowMap_no (r c : Int) (own : Bool) (h : ¬ GridOk r c) (k : Nat) : impl_FirstRowMap.f k r c own = some ([], false) := by
  unfold impl_FirstRowMap.f; rw [gridOf_no own h]; rfl
theorem spec_FirstRowMap_yes (r c : Nat) (own : Bool) (h : GridOk (r : Int) (c : Int)) (hr : c * r ≤ 16) (hc : c ≤ 16) (hr' : r ≤ 16) (h0 : 1 ≤ r) (k : Nat) (hk : c + r < k) :
    spec_FirstRowMap.f k (r : Int) (c : Int) own = some (zs (fmap r c own c), true) := by
  unfold spec_FirstRowMap.f
  rw [csGrid_yes h]
  simp only [bs, if_true]
  exact spec_FirstRowMap_l r c own hc hr hr' h0 c 0 k (by omega) hk
theorem impl_FirstRowMap_yes (r c : Nat) (own : Bool) (h : GridOk (r : Int) (c : Int)) (hr : c * r ≤ 16) (hc : c ≤ 16) (hr' : r ≤ 16) (h0 : 1 ≤ r) (k : Nat) (hk : c + r < k) :
    impl_FirstRowMap.f k (r : Int) (c : Int) own = some (zs (fmap r c own c), true) := by
  unfold impl_FirstRowMap.f
  rw [gridOf_yes own h]
  simp only [bs, if_true]
  exact impl_FirstRowMap_l r c own hc hr hr' h0 c 0 k (by omega) hk
theorem least_nil {l : List Nat} (h : ¬ ((zs l).length : Int) > 0) : least l = -1 := by
  cases l with
  | nil => rfl
  | cons a t => rw [zs_length, List.length_cons] at h; omega
theorem least_cons {l : List Nat} (h : ((zs l).length : Int) > 0) : least l = rd (zs l) 0 := by
  cases l with
  | nil => rw [zs_length, List.length_nil] at h; omega
  | cons a t => exact (rd_zs (a :: t) 0).symm
theorem spec_LastRowTable_l (rows c : Nat) (own : Bool) (hc : c ≤ 16) (hr : c * rows ≤ 16) (hr' : rows ≤ 16) (h0 : 1 ≤ rows) : ∀ n i k, i + n = 2 ^ c → n + 2 ^ c + rows < k →
    spec_LastRowTable.l0 k (rows : Int) (c : Int) own (table rows c own i) (i : Int) = some (table rows c own (2 ^ c), true) := by
  have hp : (2 : Nat) ^ c ≤ 2 ^ 16 := Nat.pow_le_pow_right (by decide) hc
  intro n
  induction n with
  | zero =>
    intro i k hi hk
    obtain ⟨k, rfl⟩ : ∃ m, k = m + 1 := ⟨k - 1, by omega⟩
    rw [spec_LastRowTable.l0, if_pos (Int.natCast_nonneg _), shl1 c (by omega), if_neg (by omega), show i = 2 ^ c by omega]
  | succ n ih =>
    intro i k hi hk
    obtain ⟨k, rfl⟩ : ∃ m, k = m + 1 := ⟨k - 1, by omega⟩
    have e := ih (i + 1) k (by omega) (by omega)
    have hlen : (table rows c own i).length = i := by simp [table]
    have hcr : c * (rows - 1) ≤ 16 := Nat.le_trans (Nat.mul_le_mul_left _ (by omega)) hr
    have hsh := shift_lt (c := c) (r := rows - 1) (x := i) (by omega)
    rw [show rows - 1 + 1 = rows by omega] at hsh
    have hpr : (2 : Nat) ^ (c * rows) ≤ 2 ^ 16 := Nat.pow_le_pow_right (by decide) hr
    rw [spec_LastRowTable.l0, if_pos (Int.natCast_nonneg _), shl1 c (by omega), if_pos (by omega), show (rows : Int) - 1 = ((rows - 1 : Nat) : Int) by omega, wrapn _ (by omega), ← Int.natCast_mul, wrapn _ (by omega), if_pos (Int.natCast_nonneg _), shln _ _ (by omega) (by omega), csFirst_f rows c own _ hc hr hr' h0 (by omega) k (by omega)]
    simp only [bs]
    rw [show ((i : Int) + 1) = ((i + 1 : Nat) : Int) from rfl, wrapn _ (by omega)]
    unfold table at e
    rw [List.range_succ, List.map_append, List.map_singleton] at e
    by_cases g : ((zs (firsts rows c own (i * 2 ^ (c * (rows - 1))))).length : Int) > 0
    · rw [if_pos g, if_pos g, if_pos (by rw [hlen]; omega), ← least_cons g]
      exact e
    · rw [if_neg g, if_pos (by rw [hlen]; omega), ← least_nil g]
      exact e
theorem impl_LastRowTable_l (rows c : Nat) (own : Bool) (hc : c ≤ 16) (hr : c * rows ≤ 16) (hr' : rows ≤ 16) (h0 : 1 ≤ rows) : ∀ n i k, i + n = 2 ^ c → n + 2 ^ c + rows < k →
    impl_LastRowTable.l0 k (rows : Int) (c : Int) (table rows c own i) ((2 ^ c : Nat) : Int) (i : Int) (rows : Int) (c : Int) own = some (table rows c own (2 ^ c), true) := by
  have hp : (2 : Nat) ^ c ≤ 2 ^ 16 := Nat.pow_le_pow_right (by decide) hc
  intro n
  induction n with
  | zero =>
    intro i k hi hk
    obtain ⟨k, rfl⟩ : ∃ m, k = m + 1 := ⟨k - 1, by omega⟩
    rw [impl_LastRowTable.l0, if_neg (by omega), show i = 2 ^ c by omega]
  | succ n ih =>
    intro i k hi hk
    obtain ⟨k, rfl⟩ : ∃ m, k = m + 1 := ⟨k - 1, by omega⟩
    have e := ih (i + 1) k (by omega) (by omega)
    have hlen : (table rows c own i).length = i := by simp [table]
    have hcr : c * (rows - 1) ≤ 16 := Nat.le_trans (Nat.mul_le_mul_left _ (by omega)) hr
    have hsh := shift_lt (c := c) (r := rows - 1) (x := i) (by omega)
    rw [show rows - 1 + 1 = rows by omega] at hsh
    have hpr : (2 : Nat) ^ (c * rows) ≤ 2 ^ 16 := Nat.pow_le_pow_right (by decide) hr
    rw [impl_LastRowTable.l0, if_pos (by omega), show (rows : Int) - 1 = ((rows - 1 : Nat) : Int) by omega, wrapn _ (by omega), ← Int.natCast_mul, Nat.mul_comm (rows - 1) c, wrapn _ (by omega), if_pos (Int.natCast_nonneg _), shln _ _ (by omega) (by omega), firstRows_f rows c own _ hc hr hr' h0 (by omega) k (by omega)]
    simp only [bs]
    rw [show ((i : Int) + 1) = ((i + 1 : Nat) : Int) from rfl, wrapn _ (by omega)]
    unfold table at e
    rw [List.range_succ, List.map_append, List.map_singleton] at e
    by_cases g : ((zs (firsts rows c own (i * 2 ^ (c * (rows - 1))))).length : Int) > 0
    · rw [if_pos g, if_pos g, if_pos (by rw [hlen]; omega), ← least_cons g]
      exact e
    · rw [if_neg g, if_pos (by rw [hlen]; omega), ← least_nil g]
      exact e
theorem spec_LastRowTable_no (r c : Int) (own : Bool) (h : ¬ GridOk r c) (k : Nat) : spec_LastRowTable.f (k + 1) r c own = some ([], false) := by
  unfold spec_LastRowTable.f
  rw [csGrid_no h]
  simp only [bs, Bool.false_eq_true, if_false]
  rw [spec_LastRowTable.j0, if_pos rfl]
theorem impl_LastRowTable_no (r c : Int) (own : Bool) (h : ¬ GridOk r c) (k : Nat) : impl_LastRowTable.f (k + 1) r c own = some ([], false) := by
  unfold impl_LastRowTable.f
  rw [gridOf_no own h]
  simp only [bs, Bool.false_eq_true, if_false]
  rw [impl_LastRowTable.j0, if_pos rfl]
theorem spec_LastRowTable_yes (r c : Nat) (own : Bool) (h : GridOk (r : Int) (c : Int)) (hr : c * r ≤ 16) (hc : c ≤ 16) (hr' : r ≤ 16) (h0 : 1 ≤ r) (k : Nat) (hk : 2 ^ c + 2 ^ c + r < k) :
    spec_LastRowTable.f (k + 1) (r : Int) (c : Int) own = some (if c ≤ 5 then (table r c own (2 ^ c), true) else ([], false)) := by
  unfold spec_LastRowTable.f
  rw [csGrid_yes h]
  simp only [bs, if_true]
  rw [spec_LastRowTable.j0]
  by_cases g : c ≤ 5
  · rw [if_neg (by simp <;> omega), if_pos g]
    exact spec_LastRowTable_l r c own hc hr hr' h0 (2 ^ c) 0 k (by omega) hk
  · rw [if_pos (by simp <;> omega), if_neg g]
theorem impl_LastRowTable_yes (r c : Nat) (own : Bool) (h : GridOk (r : Int) (c : Int)) (hr : c * r ≤ 16) (hc : c ≤ 16) (hr' : r ≤ 16) (h0 : 1 ≤ r) (k : Nat) (hk : 2 ^ c + 2 ^ c + r < k) :
    impl_LastRowTable.f (k + 1) (r : Int) (c : Int) own = some (if c ≤ 5 then (table r c own (2 ^ c), true) else ([], false)) := by
  unfold impl_LastRowTable.f
  rw [gridOf_yes own h]
  simp only [bs, if_true]
  rw [impl_LastRowTable.j0]
  by_cases g : c ≤ 5
  · rw [if_neg (by simp <;> omega), if_pos g, if_pos (Int.natCast_nonneg _), shl1 c (by omega)]
    exact impl_LastRowTable_l r c own hc hr hr' h0 (2 ^ c) 0 k (by omega) hk
  · rw [if_pos (by simp <;> omega), if_neg g]
theorem isWide_none (c : Int) : impl_isWide.f c [] = some (decide (1 ≤ c ∧ c ≤ 8)) := by
  unfold impl_isWide.f
  simp
theorem bits255 (X : Int) : ∃ n : Nat, n ≤ 255 ∧ wrap64 (Go.bits .and .u64 (IntKind.u64.wrap X / 1099511627776) 255) = (n : Int) := by
  have h : 0 ≤ IntKind.u64.wrap X ∧ IntKind.u64.wrap X < 18446744073709551616 := by rw [IntKind.wrap_u64]; omega
  obtain ⟨m, hm⟩ := Int.eq_ofNat_of_zero_le h.1
  rw [hm] at h ⊢
  have hq : ((m : Int) / 1099511627776) = ((m / 1099511627776 : Nat) : Int) := rfl
  rw [hq, show (255 : Int) = ((255 : Nat) : Int) from rfl, andu _ _ (by omega) (by decide)]
  have h2 : m / 1099511627776 &&& 255 ≤ 255 := Nat.and_le_right
  exact ⟨_, h2, wrapn _ (by omega)⟩
/-- Bytes that came in. -/
def Byt (l : List Int) : Prop := l.length ≤ 140737488355328 ∧ ∀ x ∈ l, 0 ≤ x ∧ x ≤ 255
theorem Byt.of {l : List Int} (h1 : l.length ≤ 140737488355328) (h : ∀ x ∈ l, (Lit.int .u8 x).wf = true) : Byt l := ⟨h1, fun x hx => by
  have h2 : IntKind.u8.min ≤ x ∧ x ≤ IntKind.u8.max := by
    have := h x hx
    simpa [Lit.wf] using this
  exact h2⟩
theorem mod_le {x m : Int} (h : 0 ≤ x) (hm : 0 < m) : x % m ≤ x := by
  rcases Int.lt_or_le x m with h1 | h1
  · rw [Int.emod_eq_of_lt h h1]; exact Int.le_refl _
  · have := Int.emod_lt_of_pos x hm; omega
theorem next_t {l : List Int} (hb : Byt l) (at_ sd : Int) (n : Nat) (h0 : 0 ≤ at_) (h1 : at_ ≤ n) (hn : n ≤ 1000) :
    ∃ x a s, spec_l1Cur_next.f l at_ sd = some (x, a, s) ∧ 0 ≤ a ∧ a ≤ ((n + 1 : Nat) : Int) ∧ 0 ≤ x ∧ x ≤ 255 := by
  have hl := hb.1
  have e1 : wrap64 (at_ + 1) = at_ + 1 := wrapi (by omega) (by omega)
  unfold spec_l1Cur_next.f
  by_cases c1 : at_ < (l.length : Int)
  · rw [if_pos c1, if_pos h0, e1, if_pos (by omega)]
    obtain ⟨i, rfl⟩ := Int.eq_ofNat_of_zero_le h0
    have hi : i < l.length := by omega
    have e : rd l (i : Int) = l[i] := by
      unfold rd
      rw [Int.toNat_natCast, List.getD_eq_getElem?_getD, List.getElem?_eq_getElem hi]; rfl
    have hx := hb.2 _ (List.getElem_mem hi)
    have e2 : wrap64 (rd l (i : Int)) = l[i] := by rw [e]; exact wrapi hx.1 (by omega)
    rw [e2]
    exact ⟨_, _, _, rfl, by omega, by omega, hx.1, hx.2⟩
  · rw [if_neg c1, e1]
    by_cases c2 : at_ + 1 ≤ (l.length : Int)
    · exact absurd c2 (by omega)
    · rw [if_neg c2]
      obtain ⟨m, hm, e⟩ := bits255 ((IntKind.u64.wrap (IntKind.u64.wrap (sd * 6364136223846793005))) + 1442695040888963407)
      rw [e]
      exact ⟨_, _, _, rfl, by omega, by omega, by omega, by omega⟩
theorem pick_t {l : List Int} (hb : Byt l) (at_ sd m : Int) (n : Nat) (h0 : 0 ≤ at_) (h1 : at_ ≤ n) (hn : n ≤ 900) :
    ∃ x a s, spec_l1Cur_pick.f l at_ sd m = some (x, a, s) ∧ 0 ≤ a ∧ a ≤ ((n + 2 : Nat) : Int) ∧ 0 ≤ x ∧ (1 ≤ m → x < m) ∧ x ≤ 65535 := by
  unfold spec_l1Cur_pick.f
  by_cases c1 : m ≤ 1
  · rw [if_pos c1]
    exact ⟨_, _, _, rfl, h0, by omega, by omega, fun h => by omega, by omega⟩
  · rw [if_neg c1]
    obtain ⟨x, a, s, e, ha, ha2, hx, hx2⟩ := next_t hb at_ sd n h0 h1 (by omega)
    rw [e]
    simp only [bs]
    by_cases c2 : m > 200
    · rw [if_pos c2]
      obtain ⟨y, a', s', e', ha', ha2', hy, hy2⟩ := next_t hb a s (n + 1) ha ha2 (by omega)
      rw [e']
      simp only [bs]
      rw [if_neg (by omega), wrapi (n := x * 256) (by omega) (by omega), wrapi (by omega) (by omega)]
      have h3 : Int.tmod (x * 256 + y) m = (x * 256 + y) % m := Int.tmod_eq_emod_of_nonneg (by omega)
      have h4 := Int.emod_nonneg (x * 256 + y) (show m ≠ 0 by omega)
      have h5 := Int.emod_lt_of_pos (x * 256 + y) (show 0 < m by omega)
      have h6 : (x * 256 + y) % m ≤ x * 256 + y := mod_le (by omega) (by omega)
      rw [h3]
      exact ⟨_, _, _, rfl, ha', ha2', h4, fun _ => h5, by omega⟩
    · rw [if_neg c2, if_neg (by omega)]
      have h3 : Int.tmod x m = x % m := Int.tmod_eq_emod_of_nonneg (by omega)
      have h4 := Int.emod_nonneg x (show m ≠ 0 by omega)
      have h5 := Int.emod_lt_of_pos x (show 0 < m by omega)
      have h6 : x % m ≤ x := mod_le (by omega) (by omega)
      rw [h3]
      exact ⟨_, _, _, rfl, ha, by omega, h4, fun _ => h5, by omega⟩
theorem among_t {l : List Int} (hb : Byt l) (at_ sd : Int) (xs : List Int) (hx : 1 ≤ xs.length) (n : Nat) (h0 : 0 ≤ at_) (h1 : at_ ≤ n) (hn : n ≤ 900) :
    ∃ x a s, spec_l1Cur_among.f l at_ sd xs = some (x, a, s) ∧ 0 ≤ a ∧ a ≤ ((n + 2 : Nat) : Int) ∧ x ∈ xs := by
  obtain ⟨i, a, s, e, ha, ha2, hi, hi2, _⟩ := pick_t hb at_ sd (xs.length : Int) n h0 h1 hn
  have hi3 := hi2 (by omega)
  unfold spec_l1Cur_among.f
  rw [e]
  simp only [bs]
  rw [if_pos hi, if_pos hi3]
  refine ⟨_, _, _, rfl, ha, ha2, ?_⟩
  obtain ⟨i, rfl⟩ := Int.eq_ofNat_of_zero_le hi
  unfold rd
  rw [Int.toNat_natCast, List.getD_eq_getElem?_getD, List.getElem?_eq_getElem (show i < xs.length by omega)]
  exact List.getElem_mem _
theorem one_t {l : List Int} (hb : Byt l) (at_ sd m : Int) (n : Nat) (h0 : 0 ≤ at_) (h1 : at_ ≤ n) (hn : n ≤ 900) :
    ∃ x a s, spec_l1Cur_one.f l at_ sd m = some (x, a, s) ∧ 0 ≤ a ∧ a ≤ ((n + 2 : Nat) : Int) := by
  obtain ⟨i, a, s, e, ha, ha2, _⟩ := pick_t hb at_ sd m n h0 h1 hn
  unfold spec_l1Cur_one.f
  rw [e]
  exact ⟨_, _, _, rfl, ha, ha2⟩
theorem sided_t {l : List Int} (hb : Byt l) (at_ sd : Int) (n : Nat) (h0 : 0 ≤ at_) (h1 : at_ ≤ n) (hn : n ≤ 800) :
    ∃ x y a s, spec_l1Cur_sided.f l at_ sd = some (x, y, a, s) ∧ 0 ≤ a ∧ a ≤ ((n + 4 : Nat) : Int) := by
  unfold spec_l1Cur_sided.f
  obtain ⟨x, a, s, e, ha, ha2, _⟩ := among_t hb at_ sd [1, 2, 3, 4, 5, 8, 0, (-1), 4611686018427387904] (by decide) n h0 h1 (by omega)
  rw [e]
  simp only [bs]
  obtain ⟨y, a', s', e', ha', ha2', _⟩ := among_t hb a s [1, 2, 3, 3, 4, 5, 16, 0] (by decide) (n + 2) ha ha2 (by omega)
  rw [e']
  exact ⟨_, _, _, _, rfl, ha', ha2'⟩
theorem drawFRM_t {l : List Int} (hb : Byt l) : ∃ r c own, spec_DrawFirstRowMap.f l = some (r, c, own) := by
  unfold spec_DrawFirstRowMap.f
  obtain ⟨x, y, a, s, e, ha, ha2⟩ := sided_t hb 0 0 0 (by omega) (by omega) (by omega)
  rw [e]
  simp only [bs]
  obtain ⟨z, a', s', e', _⟩ := one_t hb a s 3 4 ha ha2 (by omega)
  rw [e']
  exact ⟨_, _, _, rfl⟩
theorem hSame_l (l : List Int) (hl : l.length < 2 ^ 62) : ∀ n i k, i + n = l.length → n < k → laws_hSame.l0 k l l (l.length : Int) (i : Int) = some true := by
  intro n
  induction n with
  | zero =>
    intro i k hi hk
    obtain ⟨k, rfl⟩ : ∃ m, k = m + 1 := ⟨k - 1, by omega⟩
    rw [laws_hSame.l0, if_neg (by omega)]
  | succ n ih =>
    intro i k hi hk
    obtain ⟨k, rfl⟩ : ∃ m, k = m + 1 := ⟨k - 1, by omega⟩
    rw [laws_hSame.l0, if_pos (by omega), if_pos (by omega), if_pos (by omega), if_pos (by omega), if_pos rfl, show ((i : Int) + 1) = ((i + 1 : Nat) : Int) from rfl, wrapn _ (by omega)]
    exact ih (i + 1) k (by omega) (by omega)
theorem hSame_self (l : List Int) (hl : l.length < 2 ^ 62) (k : Nat) (hk : l.length < k) : laws_hSame.f k l l = some true := by
  unfold laws_hSame.f
  rw [if_pos rfl]
  exact hSame_l l hl l.length 0 k (by omega) hk
theorem impl_ChaseLeft_no (r c : Int) (own : Bool) (L f : Int) (h : ¬ GridOk r c) (k : Nat) : impl_ChaseLeft.f k r c own L f = some (0, false) := by
  unfold impl_ChaseLeft.f; rw [gridOf_no own h]; rfl
theorem impl_ChaseLeft_yes (r c : Nat) (own : Bool) (L f : Nat) (h : GridOk (r : Int) (c : Int)) (hr : c * r ≤ 16) (hc : c ≤ 16) (hr' : r ≤ 16) (h0 : 1 ≤ r) (hL : L < 2 ^ (c * r)) (hf : f < 2 ^ c) (k : Nat) (hk : r < k) :
    impl_ChaseLeft.f k (r : Int) (c : Int) own (L : Int) (f : Int) = some ((((cr c own L f r).2 : Nat) : Int), true) := by
  have hp : (2 : Nat) ^ (c * r) ≤ 2 ^ 16 := Nat.pow_le_pow_right (by decide) hr
  have hp2 : (2 : Nat) ^ c ≤ 2 ^ 16 := Nat.pow_le_pow_right (by decide) hc
  unfold impl_ChaseLeft.f
  rw [gridOf_yes own h]
  simp only [bs, if_true]
  rw [isBoard_f r c own _ hr, decide_eq_true (show 0 ≤ (L : Int) ∧ (L : Int) ≤ ((2 ^ (c * r) - 1 : Nat) : Int) by omega)]
  simp only [bs, if_true]
  rw [isFirst_f r c own _ hc, decide_eq_true (show 0 ≤ (f : Int) ∧ (f : Int) ≤ ((2 ^ c - 1 : Nat) : Int) by omega)]
  simp only [bs, if_true]
  rw [chase_f r c own L f hc hr hr' h0 (by omega) hf k hk, bs]
theorem impl_Nul_f (r c : Nat) (own : Bool) (h0 : 1 ≤ r) (hr : r ≤ 200) (hc0 : 1 ≤ c) (hc : c ≤ 8) : impl_NullityByRows.f (r : Int) (c : Int) own = some (((c - (Ker.img (Cnt.rws c own r)).length : Nat) : Int), true) := by
  unfold impl_NullityByRows.f
  rw [isWide_none, decide_eq_true (show (1 : Int) ≤ (c : Int) ∧ (c : Int) ≤ 8 by omega)]
  simp only [bs, if_true]
  rw [in_f, decide_eq_true (show (1 : Int) ≤ (r : Int) ∧ (r : Int) ≤ 200 by omega)]
  simp only [bs, if_true]
  unfold impl_nullityByRows.f nrOk
  rw [decide_eq_true (show (0 : Int) ≤ (r : Int) ∧ (r : Int) ≤ 1000 by omega), decide_eq_true (show (0 : Int) ≤ (c : Int) ∧ (c : Int) ≤ 16 by omega), Bool.and_self, if_pos rfl]
  simp only [bs, Int.toNat_natCast]

end Go.Proofs.Ytgnjndkbccakgaa.LemFnFirstRowsAreLinear
