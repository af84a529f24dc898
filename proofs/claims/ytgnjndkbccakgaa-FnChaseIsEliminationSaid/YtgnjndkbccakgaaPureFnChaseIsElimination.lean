/- A chase leaves lights in the last row alone, and rows solve exactly where the grid can be solved: for all bytes that the draws read. No conditions. -/
import Derived.Test.YtgnjndkbccakgaaLemFnChaseIsElimination
namespace Go.Proofs.Ytgnjndkbccakgaa.Pure
open Go.RowKit Go.Proofs.Ytgnjndkbccakgaa.PFnChaseIsElimination Go.Proofs.YtgnjndkbccakgaaW.PrintWords Go.Proofs.YtgnjndkbccakgaaW.PrintLast Go.Proofs.Ytgnjndkbccakgaa.Bit Go.Proofs.Ytgnjndkbccakgaa.Row Go.Proofs.Ytgnjndkbccakgaa.Lin Go.Proofs.Ytgnjndkbccakgaa.Gra Go.Proofs.Ytgnjndkbccakgaa.LemFnChaseIsElimination

theorem and_mask (x c : Nat) (hx : x < 2 ^ 63) (hc : c ≤ 16) : Go.bits .and .i64 (x : Int) (wrap64 (((2 ^ c : Nat) : Int) - 1)) = ((x % 2 ^ c : Nat) : Int) := by
  have hp : (2 : Nat) ^ c ≤ 2 ^ 16 := Nat.pow_le_pow_right (by decide) hc
  have hq := Nat.two_pow_pos c
  rw [show ((2 ^ c : Nat) : Int) - 1 = ((2 ^ c - 1 : Nat) : Int) by omega, wrapn _ (by omega), andn _ _ hx (by omega), Nat.and_two_pow_sub_one_eq_mod]
/-- The second half. -/
theorem second {l1 : List Int} (hb : Byt l1) (k : Nat) (hk : 80000 ≤ k) : laws_FnChaseIsElimination.j1 k l1 = some true := by
  obtain ⟨k, rfl⟩ : ∃ m, k = m + 2 := ⟨k - 2, by omega⟩
  obtain ⟨r, c, own, L, e⟩ := drawSBC_t hb
  rw [laws_FnChaseIsElimination.j1, e]
  simp only [bs]
  rcases sbc_all r c own L (k + 1) (by omega) with ⟨e1, e2, e3, e4⟩ | ⟨r, c, L, rfl, rfl, rfl, hg, h1, h2, h3, h4, h5, hL, e3, e4, e5⟩
  · rw [e1, e2, e3, e4]
    simp only [bs, bne_self_eq_false, Bool.false_eq_true, if_false, if_true]
    rw [hSame_self _ (by decide) _ (by simp)]
    simp only [bs, if_true]
    rw [laws_FnChaseIsElimination.j2, if_neg (by decide), if_neg (by decide)]
  · have hp : (2 : Nat) ^ (c * r) ≤ 2 ^ 16 := Nat.pow_le_pow_right (by decide) h5
    have hp2 : (2 : Nat) ^ c ≤ 2 ^ 8 := Nat.pow_le_pow_right (by decide) h4
    have hfl : (firsts r c own L).length ≤ 2 ^ c := by
      have := List.length_filter_le (fun f => decide ((cr c own L f r).2 = 0)) (List.range (2 ^ c))
      rwa [List.length_range] at this
    obtain ⟨c1, c2⟩ := gridC_f r c own h1 h2 h3 (by omega) h5 L hL
    have hcd : (decide (((zs (firsts r c own L)).length : Int) > 0)) = decide (firsts r c own L ≠ []) := by
      rw [zs_length, decide_eq_decide]
      cases firsts r c own L with
      | nil => simp
      | cons a t => simp
    have hj : ∀ (x : Int) (b : Bool), b = decide (firsts r c own L ≠ []) → (b = true → ∃ f, f ∈ firsts r c own L ∧ x = ((prs c own L f r : Nat) : Int)) →
        laws_FnChaseIsElimination.j2 (k + 1) (r : Int) (c : Int) own (L : Int) x b (zs (firsts r c own L)) true (b != decide (((zs (firsts r c own L)).length : Int) > 0)) = some true := by
      intro x b hbb hx
      rw [laws_FnChaseIsElimination.j2, hcd, ← hbb, if_neg (by simp), if_pos rfl, gridG_f r c own h1 h2 h3 (by omega) h5 k (by omega)]
      simp only [bs]
      rw [c1, c2]
      simp only [bs, if_true]
      rw [← hbb, if_neg (by simp), zs_length, bne_self_eq_false]
      obtain ⟨k, rfl⟩ : ∃ m, k = m + 1 := ⟨k - 1, by omega⟩
      rw [laws_FnChaseIsElimination.j3, if_neg (by decide)]
      by_cases hbt : b = true
      · obtain ⟨f, hf, rfl⟩ := hx hbt
        obtain ⟨hf1, hf2⟩ := Cha.firsts_mem hf
        rw [if_pos hbt, gridP_f r c own h1 h2 h3 (by omega) h5 L _ hL (prs_lt own L hf1 r) k (by omega), Grd.gx_chase hL hf1 h1, hf2, Nat.zero_mul, Nat.xor_zero, Nat.xor_self]
        rfl
      · rw [if_neg hbt]
    rw [e3, e4]
    rcases e5 with ⟨hn, e1, e2⟩ | ⟨f, t, hf, e1, e2⟩
    · rw [e1, e2]
      simp only [bs, bne_self_eq_false, Bool.false_eq_true, if_false, if_true]
      rw [hSame_self _ (by rw [zs_length]; omega) _ (by rw [zs_length]; omega)]
      simp only [bs, if_true]
      exact hj 0 false (by rw [hn]; rfl) (fun h => by cases h)
    · rw [e1, e2]
      simp only [bs, bne_self_eq_false, Bool.false_eq_true, if_false, if_true]
      rw [hSame_self _ (by rw [zs_length]; omega) _ (by rw [zs_length]; omega)]
      simp only [bs, if_true]
      exact hj _ true (by rw [hf]; rfl) (fun _ => ⟨f, by rw [hf]; exact List.mem_cons_self .., rfl⟩)
theorem FnChaseIsElimination : laws_FnChaseIsElimination.Pure := by
  intro l0 l1 _ hl0 hw0 _ hl1 hw1
  have hb0 : Byt l0 := Byt.of (by omega) hw0
  have hb1 : Byt l1 := Byt.of (by omega) hw1
  obtain ⟨r, c, own, L, f, e⟩ := drawCP_t hb0
  refine ⟨100001, ?_⟩
  unfold laws_FnChaseIsElimination.f laws_big.f
  by_cases g1 : (l0.length : Int) > 1048576
  · rw [if_pos g1]
    simp only [bs, if_true]
  rw [if_neg g1, wrapi (n := 1048576 - (l0.length : Int)) (by omega) (by omega)]
  simp only [bs]
  by_cases g2 : (l1.length : Int) > 1048576 - (l0.length : Int)
  · rw [if_pos (decide_eq_true g2)]
  rw [if_neg (by rw [decide_eq_false g2]; decide), e]
  simp only [bs]
  rcases chases_all r c own L f 100001 (by omega) with ⟨e1, e2, e3, e4⟩ | ⟨r, c, L, f, rfl, rfl, rfl, rfl, hg, h1, h2, h3, h4, h5, hL, hf, e1, e2, e3, e4⟩
  · rw [e1, e2, e3, e4]
    simp only [bs, bne_self_eq_false, Bool.false_eq_true, if_false, if_true]
    rw [laws_FnChaseIsElimination.j0, if_neg (by decide), if_neg (by decide)]
    exact second hb1 _ (by omega)
  · have hp : (2 : Nat) ^ (c * r) ≤ 2 ^ 16 := Nat.pow_le_pow_right (by decide) h5
    have hp2 : (2 : Nat) ^ c ≤ 2 ^ 16 := Nat.pow_le_pow_right (by decide) h4
    have hpl := prs_lt own L hf r
    have hcl := (cr_lt own L hf r).2
    have hcr : c * (r - 1) ≤ 16 := Nat.le_trans (Nat.mul_le_mul_left _ (by omega)) h5
    have hsh := shift_lt (c := c) (r := r - 1) hcl
    rw [show r - 1 + 1 = r by omega] at hsh
    rw [e1, e2, e3, e4]
    simp only [bs, bne_self_eq_false, Bool.false_eq_true, if_false, if_true]
    rw [laws_FnChaseIsElimination.j0, if_neg (by decide), if_pos rfl, gridG_f r c own h1 h2 h3 h4 h5 100000 (by omega)]
    simp only [bs]
    rw [gridP_f r c own h1 h2 h3 h4 h5 L _ hL hpl 100000 (by omega)]
    simp only [bs, if_true]
    rw [show (r : Int) - 1 = ((r - 1 : Nat) : Int) by omega, wrapn _ (by omega), ← Int.natCast_mul, wrapn _ (by omega), if_pos (Int.natCast_nonneg _), shln _ _ (by omega) (by omega), Grd.gx_chase hL hf h1, ← Nat.xor_assoc, Nat.xor_self, Nat.zero_xor, if_pos rfl, if_pos (Int.natCast_nonneg _), shl1 c (by omega), and_mask _ c (by omega) h4, Grd.prs_first L hf h1, if_pos rfl]
    exact second hb1 _ (by omega)
end Go.Proofs.Ytgnjndkbccakgaa.Pure
