/- Grids: what presses toggle, row by row; a chase solves just what can be solved; how many first rows leave nothing. No program here. -/
import Derived.Test.YtgnjndkbccakgaaCha
import Derived.Test.YtgnjndkbccakgaaSog
namespace Go.Proofs.Ytgnjndkbccakgaa.Grd
open Go.Proofs.Ytgnjndkbccakgaa.Lin Go.Proofs.Ytgnjndkbccakgaa.Ker Go.Proofs.Ytgnjndkbccakgaa.Row Go.Proofs.Ytgnjndkbccakgaa.Cnt Go.Proofs.Ytgnjndkbccakgaa.Cha Go.Proofs.Ytgnjndkbccakgaa.Gra Go.Proofs.Ytgnjndkbccakgaa.Sol Go.Proofs.Ytgnjndkbccakgaa.Sog

/-! ### Rows laid one above the other -/
def stk (c : Nat) (g : Nat → Nat) : Nat → Nat
  | 0 => 0
  | i + 1 => stk c g i ^^^ g i * 2 ^ (c * i)
theorem stk_lt {c : Nat} {g : Nat → Nat} : ∀ n, (∀ i, i < n → g i < 2 ^ c) → stk c g n < 2 ^ (c * n)
  | 0, _ => Nat.two_pow_pos _
  | n + 1, h => by
    refine Nat.xor_lt_two_pow (Nat.lt_of_lt_of_le (stk_lt n fun i hi => h i (by omega)) (Nat.pow_le_pow_right (by decide) (Nat.mul_le_mul_left _ (by omega)))) (shift_lt (h n (by omega)))
theorem rowOf_xor (c x y r : Nat) : rowOf c (x ^^^ y) r = rowOf c x r ^^^ rowOf c y r := by
  unfold rowOf
  rw [divx, Nat.and_xor_distrib_right]
theorem rowOf_lt (c x r : Nat) : rowOf c x r < 2 ^ c := mask_lt _ _
theorem rowOf_big {c x r : Nat} (h : x < 2 ^ (c * r)) : rowOf c x r = 0 := by
  unfold rowOf
  rw [Nat.div_eq_of_lt h, Nat.zero_and]
theorem rowOf_shift_ne {c a i j : Nat} (ha : a < 2 ^ c) (h : i ≠ j) : rowOf c (a * 2 ^ (c * i)) j = 0 := by
  rcases Nat.lt_or_gt_of_ne h with h | h
  · exact rowOf_big (Nat.lt_of_lt_of_le (shift_lt ha) (Nat.pow_le_pow_right (by decide) (Nat.mul_le_mul_left _ h)))
  · exact rowOf_up h
theorem rowOf_stk {c : Nat} {g : Nat → Nat} : ∀ n, (∀ i, i < n → g i < 2 ^ c) → ∀ i, rowOf c (stk c g n) i = if i < n then g i else 0
  | 0, _, i => by rw [if_neg (by omega)]; exact rowOf_zero c i
  | n + 1, h, i => by
    have ih := rowOf_stk n (fun i hi => h i (by omega)) i
    show rowOf c (stk c g n ^^^ g n * 2 ^ (c * n)) i = _
    rw [rowOf_xor, ih]
    rcases Nat.lt_trichotomy i n with hi | rfl | hi
    · rw [if_pos hi, if_pos (by omega), rowOf_shift_ne (h n (by omega)) (by omega), Nat.xor_zero]
    · rw [if_neg (by omega), if_pos (by omega), rowOf_here (h i (by omega)), Nat.zero_xor]
    · rw [if_neg (by omega), if_neg (by omega), rowOf_shift_ne (h n (by omega)) (by omega), Nat.xor_zero]
theorem stk_rows {c : Nat} (x : Nat) : ∀ n, stk c (rowOf c x) n = x % 2 ^ (c * n)
  | 0 => by rw [Nat.mul_zero, Nat.pow_zero, Nat.mod_one]; rfl
  | n + 1 => by
    show stk c (rowOf c x) n ^^^ rowOf c x n * 2 ^ (c * n) = _
    rw [stk_rows x n, Nat.mul_add, Nat.mul_one, Nat.pow_add, Nat.mod_mul]
    unfold rowOf
    rw [Nat.and_two_pow_sub_one_eq_mod]
    generalize x / 2 ^ (c * n) % 2 ^ c = b
    have ha := Nat.mod_lt x (Nat.two_pow_pos (c * n))
    generalize x % 2 ^ (c * n) = a at *
    apply Nat.eq_of_testBit_eq
    intro j
    rw [Nat.add_comm a, Nat.mul_comm (2 ^ (c * n)) b, Nat.testBit_xor, Nat.mul_comm b, Nat.testBit_two_pow_mul_add _ ha, Nat.testBit_two_pow_mul]
    by_cases hj : j < c * n
    · rw [if_pos hj, decide_eq_false (by omega), Bool.false_and, Bool.xor_false]
    · rw [if_neg hj, decide_eq_true (by omega), Bool.true_and, Nat.testBit_lt_two_pow (Nat.lt_of_lt_of_le ha (Nat.pow_le_pow_right (by decide) (by omega))), Bool.false_xor]
theorem stk_congr {c : Nat} {g g' : Nat → Nat} : ∀ n, (∀ i, i < n → g i = g' i) → stk c g n = stk c g' n
  | 0, _ => rfl
  | n + 1, h => by
    show stk c g n ^^^ g n * _ = stk c g' n ^^^ g' n * _
    rw [stk_congr n fun i hi => h i (by omega), h n (by omega)]
theorem rows_ext {c n x y : Nat} (hx : x < 2 ^ (c * n)) (hy : y < 2 ^ (c * n)) (h : ∀ i, i < n → rowOf c x i = rowOf c y i) : x = y := by
  have h1 := stk_rows (c := c) x n
  have h2 := stk_rows (c := c) y n
  rw [Nat.mod_eq_of_lt hx] at h1
  rw [Nat.mod_eq_of_lt hy] at h2
  rw [← h1, ← h2]
  exact stk_congr n h

/-! ### What presses toggle -/
/-- The lights of row i that a set of presses toggles. -/
def tr (c : Nat) (own : Bool) (x i : Nat) : Nat := tog c own (rowOf c x i) ^^^ (if i = 0 then 0 else rowOf c x (i - 1)) ^^^ rowOf c x (i + 1)
def gx (c r : Nat) (own : Bool) (x : Nat) : Nat := stk c (tr c own x) r
theorem tr_lt (c : Nat) (own : Bool) (x i : Nat) : tr c own x i < 2 ^ c := by
  refine Nat.xor_lt_two_pow (Nat.xor_lt_two_pow (tog_lt own (rowOf_lt ..)) ?_) (rowOf_lt ..)
  split
  · exact Nat.two_pow_pos c
  · exact rowOf_lt ..
theorem x6 (a b c d e f : Nat) : a ^^^ b ^^^ c ^^^ (d ^^^ e ^^^ f) = (a ^^^ d) ^^^ (b ^^^ e) ^^^ (c ^^^ f) := by
  apply Nat.eq_of_testBit_eq
  intro j
  simp only [Nat.testBit_xor]
  cases a.testBit j <;> cases b.testBit j <;> cases c.testBit j <;> cases d.testBit j <;> cases e.testBit j <;> cases f.testBit j <;> rfl
theorem tr_xor (c : Nat) (own : Bool) (x y i : Nat) : tr c own (x ^^^ y) i = tr c own x i ^^^ tr c own y i := by
  unfold tr
  rw [rowOf_xor, rowOf_xor, rowOf_xor, tog_xor, x6]
  congr 2
  split
  · rfl
  · rfl
theorem x4' (a b c d : Nat) : a ^^^ b ^^^ (c ^^^ d) = a ^^^ c ^^^ (b ^^^ d) := by
  rw [Nat.xor_assoc, Nat.xor_assoc]
  congr 1
  rw [← Nat.xor_assoc, ← Nat.xor_assoc, Nat.xor_comm b c]
theorem gx_xor (c r : Nat) (own : Bool) (x y : Nat) : gx c r own (x ^^^ y) = gx c r own x ^^^ gx c r own y := by
  unfold gx
  induction r with
  | zero => exact (Nat.xor_self 0).symm
  | succ r ih =>
    show stk _ _ r ^^^ tr c own (x ^^^ y) r * _ = stk _ _ r ^^^ _ ^^^ (stk _ _ r ^^^ _)
    rw [ih, tr_xor, mulx, x4']
/-- The table of neighbours of a grid. -/
def gridL (r c : Nat) : List Nat := (List.range (r * c)).map fun p => (if p % c = 0 then 0 else 2 ^ (p - 1)) ||| (if p % c + 1 < c then 2 ^ (p + 1) else 0) ||| (if p / c = 0 then 0 else 2 ^ (p - c)) ||| (if p / c + 1 < r then 2 ^ (p + c) else 0)
theorem gridL_length (r c : Nat) : (gridL r c).length = r * c := by simp [gridL]
theorem grid_fin : ∀ r c : Fin 17, ∀ own : Bool, 1 ≤ r.val → 1 ≤ c.val → r.val * c.val ≤ 16 → tgls (gridL r.val c.val) own = (List.range (r.val * c.val)).map fun i => gx c.val r.val own (2 ^ i) := by decide +kernel
theorem grid_tgls (r c : Nat) (own : Bool) (hr0 : 1 ≤ r) (hr : r ≤ 16) (hc0 : 1 ≤ c) (hc : c ≤ 16) (h : r * c ≤ 16) : tgls (gridL r c) own = (List.range (r * c)).map fun i => gx c r own (2 ^ i) :=
  grid_fin ⟨r, by omega⟩ ⟨c, by omega⟩ own hr0 hc0 h
section
variable {r c : Nat} {own : Bool}
theorem mp_grid (hr0 : 1 ≤ r) (hr : r ≤ 16) (hc0 : 1 ≤ c) (hc : c ≤ 16) (h : r * c ≤ 16) {x : Nat} (hx : x < 2 ^ (r * c)) : mp (tgls (gridL r c) own) x (r * c) = gx c r own x := by
  rw [grid_tgls r c own hr0 hr hc0 hc h]
  have := mp_lin (gx c r own) (gx_xor c r own) (r * c) x (r * c) (Nat.le_refl _)
  rwa [Nat.mod_eq_of_lt hx] at this

/-! ### A chase -/
theorem prs_stk {f : Nat} (L : Nat) (hf : f < 2 ^ c) : ∀ n, prs c own L f n = stk c (fun i => (cr c own L f i).2) n
  | 0 => rfl
  | n + 1 => by
    show prs c own L f n ||| (cr c own L f n).2 * 2 ^ (c * n) = stk c (fun i => (cr c own L f i).2) n ^^^ (cr c own L f n).2 * 2 ^ (c * n)
    rw [← prs_stk L hf n]
    have ha := prs_lt own L hf n
    generalize prs c own L f n = a at *
    generalize (cr c own L f n).2 = b
    apply Nat.eq_of_testBit_eq
    intro j
    rw [Nat.testBit_or, Nat.testBit_xor, Nat.mul_comm b, Nat.testBit_two_pow_mul]
    by_cases hj : j < c * n
    · rw [decide_eq_false (by omega), Bool.false_and, Bool.or_false, Bool.xor_false]
    · rw [Nat.testBit_lt_two_pow (Nat.lt_of_lt_of_le ha (Nat.pow_le_pow_right (by decide) (by omega))), Bool.false_or, Bool.false_xor]
theorem prs_row {f : Nat} (L : Nat) (hf : f < 2 ^ c) (n i : Nat) : rowOf c (prs c own L f n) i = if i < n then (cr c own L f i).2 else 0 := by
  rw [prs_stk L hf n]
  exact rowOf_stk n (fun i _ => (cr_lt own L hf i).2) i
theorem prs_first {f : Nat} (L : Nat) (hf : f < 2 ^ c) (h0 : 1 ≤ r) : prs c own L f r % 2 ^ c = f := by
  have h := prs_row (own := own) L hf r 0
  rw [if_pos (by omega)] at h
  unfold rowOf at h
  rw [Nat.mul_zero, Nat.pow_zero, Nat.div_one, Nat.and_two_pow_sub_one_eq_mod] at h
  exact h
theorem cr_fst {f : Nat} (L i : Nat) : (cr c own L f (i + 1)).1 = (cr c own L f i).2 := rfl
theorem cr_prev {f : Nat} (L i : Nat) : (cr c own L f i).1 = if i = 0 then 0 else (cr c own L f (i - 1)).2 := by
  cases i with
  | zero => rfl
  | succ i => rw [if_neg (by omega), Nat.add_sub_cancel]; rfl
theorem tr_chase {f : Nat} (L : Nat) (hf : f < 2 ^ c) {n i : Nat} (hi : i < n) : tr c own (prs c own L f n) i = rowOf c L i ^^^ (if i + 1 < n then 0 else (cr c own L f n).2) := by
  have e : (cr c own L f (i + 1)).2 = rowOf c L i ^^^ (cr c own L f i).1 ^^^ tog c own (cr c own L f i).2 := rfl
  unfold tr
  rw [prs_row L hf, prs_row L hf, prs_row L hf, if_pos hi]
  have e2 : (if i = 0 then 0 else if i - 1 < n then (cr c own L f (i - 1)).2 else 0) = (cr c own L f i).1 := by
    rw [cr_prev]
    split
    · rfl
    · rw [if_pos (by omega)]
  rw [e2]
  by_cases h : i + 1 < n
  · rw [if_pos h, if_pos h, e, Nat.xor_zero]
    generalize (cr c own L f i).1 = p
    generalize tog c own (cr c own L f i).2 = t
    apply Nat.eq_of_testBit_eq
    intro j
    simp only [Nat.testBit_xor]
    cases p.testBit j <;> cases t.testBit j <;> cases (rowOf c L i).testBit j <;> rfl
  · obtain rfl : n = i + 1 := by omega
    rw [if_neg h, if_neg h, e, Nat.xor_zero]
    generalize (cr c own L f i).1 = p
    generalize tog c own (cr c own L f i).2 = t
    apply Nat.eq_of_testBit_eq
    intro j
    simp only [Nat.testBit_xor]
    cases p.testBit j <;> cases t.testBit j <;> cases (rowOf c L i).testBit j <;> rfl
theorem gx_row (x i : Nat) (hi : i < r) : rowOf c (gx c r own x) i = tr c own x i := by
  unfold gx
  rw [rowOf_stk r (fun i _ => tr_lt c own x i) i, if_pos hi]
theorem gx_lt (x : Nat) : gx c r own x < 2 ^ (c * r) := stk_lt r fun i _ => tr_lt c own x i
/-- A chase's presses leave lights in the last row alone. -/
theorem gx_chase {L f : Nat} (hL : L < 2 ^ (c * r)) (hf : f < 2 ^ c) (h0 : 1 ≤ r) : gx c r own (prs c own L f r) = L ^^^ (cr c own L f r).2 * 2 ^ (c * (r - 1)) := by
  have hs := shift_lt (r := r - 1) (cr_lt own L hf r).2
  rw [show r - 1 + 1 = r by omega] at hs
  refine rows_ext (gx_lt _) (Nat.xor_lt_two_pow hL hs) fun i hi => ?_
  rw [gx_row _ _ hi, tr_chase L hf hi, rowOf_xor]
  congr 1
  by_cases h : i + 1 < r
  · rw [if_pos h, rowOf_up (by omega)]
  · obtain rfl : i = r - 1 := by omega
    rw [if_neg h, rowOf_here (cr_lt own L hf r).2]
theorem mod_row (x : Nat) : x % 2 ^ c = rowOf c x 0 := by
  unfold rowOf
  rw [Nat.mul_zero, Nat.pow_zero, Nat.div_one, Nat.and_two_pow_sub_one_eq_mod]
/-- What solves lights is a chase that leaves nothing. -/
theorem chase_of {L x : Nat} (hx : x < 2 ^ (c * r)) (h : gx c r own x = L) : (cr c own L (x % 2 ^ c) r).2 = 0 ∧ prs c own L (x % 2 ^ c) r = x := by
  have hf : x % 2 ^ c < 2 ^ c := Nat.mod_lt _ (Nat.two_pow_pos c)
  have hr : ∀ i, i ≤ r → (cr c own L (x % 2 ^ c) i).2 = rowOf c x i ∧ (cr c own L (x % 2 ^ c) i).1 = if i = 0 then 0 else rowOf c x (i - 1) := by
    intro i
    induction i with
    | zero => intro _; exact ⟨mod_row x, rfl⟩
    | succ i ih =>
      intro hi
      obtain ⟨h1, h2⟩ := ih (by omega)
      have e : (cr c own L (x % 2 ^ c) (i + 1)).2 = rowOf c L i ^^^ (cr c own L (x % 2 ^ c) i).1 ^^^ tog c own (cr c own L (x % 2 ^ c) i).2 := rfl
      have hL := gx_row (c := c) (r := r) (own := own) x i (by omega)
      rw [h] at hL
      refine ⟨?_, by rw [if_neg (by omega), Nat.add_sub_cancel, ← h1]; rfl⟩
      rw [e, hL, h2, h1]
      unfold tr
      generalize (if i = 0 then 0 else rowOf c x (i - 1)) = p
      generalize tog c own (rowOf c x i) = t
      apply Nat.eq_of_testBit_eq
      intro j
      simp only [Nat.testBit_xor]
      cases p.testBit j <;> cases t.testBit j <;> cases (rowOf c x (i + 1)).testBit j <;> rfl
  refine ⟨by rw [(hr r (Nat.le_refl _)).1, rowOf_big hx], rows_ext (prs_lt own L hf r) hx fun i hi => ?_⟩
  rw [prs_row L hf, if_pos hi, (hr i (by omega)).1]

/-! ### How many -/
theorem cntB_filter (p : Nat → Bool) : ∀ n, cntB p n = ((List.range n).filter p).length
  | 0 => rfl
  | n + 1 => by
    show cntB p n + _ = _
    rw [cntB_filter p n, List.range_succ, List.filter_append, List.length_append]
    congr 1
    cases hp : p n <;> simp [hp]
/-- As many first rows leave nothing as there are solutions. -/
theorem firsts_count {L : Nat} (hL : L < 2 ^ (c * r)) (h0 : 1 ≤ r) : (firsts r c own L).length = cntB (fun x => gx c r own x == L) (2 ^ (c * r)) := by
  rw [cntB_filter]
  have hmem : ∀ f, f ∈ firsts r c own L ↔ f < 2 ^ c ∧ (cr c own L f r).2 = 0 := fun f => by
    unfold firsts
    rw [List.mem_filter, List.mem_range, decide_eq_true_eq]
  have hnd : (firsts r c own L).Nodup := List.Nodup.sublist List.filter_sublist List.nodup_range
  have hnd2 : (((List.range (2 ^ (c * r))).filter fun x => gx c r own x == L).map fun x => x % 2 ^ c).Nodup := by
    refine List.pairwise_map.2 (List.Pairwise.imp_of_mem ?_ (List.Nodup.sublist List.filter_sublist List.nodup_range))
    intro x y hx hy hne he
    rw [List.mem_filter, List.mem_range, beq_iff_eq] at hx hy
    have h1 := (chase_of hx.1 hx.2).2
    have h2 := (chase_of hy.1 hy.2).2
    rw [he, h2] at h1
    exact hne h1.symm
  have hp : (firsts r c own L).Perm (((List.range (2 ^ (c * r))).filter fun x => gx c r own x == L).map fun x => x % 2 ^ c) := by
    refine (List.perm_ext_iff_of_nodup hnd hnd2).2 fun f => ?_
    rw [hmem, List.mem_map]
    constructor
    · rintro ⟨hf, he⟩
      refine ⟨prs c own L f r, ?_, prs_first L hf h0⟩
      rw [List.mem_filter, List.mem_range, beq_iff_eq, gx_chase hL hf h0, he, Nat.zero_mul, Nat.xor_zero]
      exact ⟨prs_lt own L hf r, rfl⟩
    · rintro ⟨x, hx, rfl⟩
      rw [List.mem_filter, List.mem_range, beq_iff_eq] at hx
      exact ⟨Nat.mod_lt _ (Nat.two_pow_pos c), (chase_of hx.1 hx.2).1⟩
  rw [hp.length_eq, List.length_map]
/-- The kernel has as many sets as its basis has subsets. -/
theorem ker_count (es : List Nat) : cntB (fun x => mp es x es.length == 0) (2 ^ es.length) = 2 ^ (refQ es).length := by
  have hl : ∀ b ∈ refQ es, b < 2 ^ es.length := fun b hb => ((refQ_kernel es b).1 (Sp.mem hb)).1
  rw [← cnt_sp es.length (refQ_isB es) hl]
  refine cntB_congr _ fun x hx => ?_
  rw [Bool.eq_iff_iff, spB_iff, refQ_kernel, beq_iff_eq]
  exact ⟨fun h => ⟨hx, h⟩, fun h => h.2⟩
theorem sol_count (es : List Nat) (L : Nat) : (Im es L → cntB (fun x => mp es x es.length == L) (2 ^ es.length) = 2 ^ (refQ es).length) ∧ (¬ Im es L → cntB (fun x => mp es x es.length == L) (2 ^ es.length) = 0) := by
  constructor
  · rintro ⟨x0, h0, rfl⟩
    rw [← ker_count es, ← cntB_shift (fun x => mp es x es.length == 0) es.length x0 h0]
    refine cntB_congr _ fun x _ => ?_
    rw [Bool.eq_iff_iff, beq_iff_eq, beq_iff_eq, mp_xor]
    exact ⟨fun h => by rw [h, Nat.xor_self], fun h => xeq h⟩
  · intro h
    refine cntB_false _ fun x hx => ?_
    rw [Bool.eq_false_iff]
    intro he
    exact h ⟨x, hx, beq_iff_eq.1 he⟩
theorem grid_count (hr0 : 1 ≤ r) (hr : r ≤ 16) (hc0 : 1 ≤ c) (hc : c ≤ 16) (h : r * c ≤ 16) {L : Nat} (hL : L < 2 ^ (c * r)) :
    (Im (tgls (gridL r c) own) L → (firsts r c own L).length = 2 ^ (refQ (tgls (gridL r c) own)).length) ∧ (¬ Im (tgls (gridL r c) own) L → firsts r c own L = []) := by
  have hs := sol_count (tgls (gridL r c) own) L
  rw [tgls_length, gridL_length] at hs
  have e : cntB (fun x => mp (tgls (gridL r c) own) x (r * c) == L) (2 ^ (r * c)) = (firsts r c own L).length := by
    rw [firsts_count hL hr0, Nat.mul_comm c r]
    exact cntB_congr _ fun x hx => by rw [mp_grid hr0 hr hc0 hc h hx]
  rw [e] at hs
  exact ⟨hs.1, fun hn => List.eq_nil_of_length_eq_zero (hs.2 hn)⟩
theorem grid_null (hr0 : 1 ≤ r) (hr : r ≤ 16) (hc0 : 1 ≤ c) (hc : c ≤ 16) (h : r * c ≤ 16) : (refQ (tgls (gridL r c) own)).length = c - (img (rws c own r)).length := by
  have h1 := (grid_count (own := own) hr0 hr hc0 hc h (L := 0) (Nat.two_pow_pos _)).1 ⟨0, Nat.two_pow_pos _, mp_zero ..⟩
  have h2 := (cnt_rows c own r).1
  rw [cntB_filter] at h2
  have e : ((List.range (2 ^ c)).filter fun x => (cr c own 0 x r).2 == 0) = firsts r c own 0 := by
    unfold firsts
    congr 1
  rw [e, h1] at h2
  rcases Nat.lt_trichotomy (refQ (tgls (gridL r c) own)).length (c - (img (rws c own r)).length) with h3 | h3 | h3
  · exact absurd h2 (Nat.ne_of_lt (Nat.pow_lt_pow_right (by decide) h3))
  · exact h3
  · exact absurd h2 (Nat.ne_of_gt (Nat.pow_lt_pow_right (by decide) h3))
end
end Go.Proofs.Ytgnjndkbccakgaa.Grd
