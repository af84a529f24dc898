/- NullitiesByRows of the program and of the reference agree, and their lists are new memory: for all arguments. -/
import Derived.Test.YtfjkahkinkaheaaLemFnExactNullitiesByRows
namespace Go.Proofs.Ytfjkahkinkaheaa.Pure
open Go.RowKit Go.Proofs.Ytfjkahkinkaheaa.PFnExactNullitiesByRows Go.Proofs.YtfjkahkinkaheaaW.PrintWords Go.Proofs.YtfjkahkinkaheaaW.PrintLast Go.Proofs.Ytfjkahkinkaheaa.Bit Go.Proofs.Ytfjkahkinkaheaa.Row Go.Proofs.Ytfjkahkinkaheaa.Lin Go.Proofs.Ytfjkahkinkaheaa.Ker Go.Proofs.Ytfjkahkinkaheaa.Cnt Go.Proofs.Ytfjkahkinkaheaa.LemFnExactNullitiesByRows

theorem wide_0 (c : Int) : (decide (1 ≤ c ∧ c ≤ 8) && decide ((0 : Int) ≤ 0 ∧ (0 : Int) ≤ ((2 ^ c.toNat - 1 : Nat) : Int))) = decide (1 ≤ c ∧ c ≤ 8) := by
  rw [decide_eq_true (⟨Int.le_refl 0, Int.natCast_nonneg _⟩ : (0 : Int) ≤ 0 ∧ (0 : Int) ≤ ((2 ^ c.toNat - 1 : Nat) : Int)), Bool.and_true]
theorem inul (c rows : Nat) (own : Bool) (hc : c ≤ 16) (hr : rows ≤ 1000) : impl_nullityByRows.f (rows : Int) (c : Int) own = some ((c - (img (rws c own rows)).length : Nat) : Int) := by
  have hok : nrOk (rows : Int) (c : Int) = true := by
    unfold nrOk
    rw [Bool.and_eq_true, decide_eq_true_eq, decide_eq_true_eq]
    omega
  unfold impl_nullityByRows.f
  rw [if_pos hok]
  simp only [Int.toNat_natCast]
theorem pow8 {c : Nat} (h : c ≤ 8) : 2 ^ c ≤ 256 := Nat.pow_le_pow_right (n := 2) (by decide) h
/-- The nullities of grids of so many columns, by rows. -/
def nuls (c : Nat) (own : Bool) (n : Nat) : List Int := (List.range n).map fun i => ((c - (img (rws c own (i + 1))).length : Nat) : Int)
theorem nuls_succ (c : Nat) (own : Bool) (n : Nat) : nuls c own (n + 1) = nuls c own n ++ [((c - (img (rws c own (n + 1))).length : Nat) : Int)] := by simp [nuls, List.range_succ]
theorem nuls_length (c : Nat) (own : Bool) (n : Nat) : (nuls c own n).length = n := by simp [nuls]
theorem spec_l (c : Nat) (hc : c ≤ 8) (own : Bool) (most : Nat) (hm : most ≤ 200) : ∀ n i k, i + n = most → n + 1400 < k → spec_NullitiesByRows.l0 k (c : Int) own (most : Int) (nuls c own i) ((i : Int) + 1) = some (nuls c own most, true) := by
  have hp := pow8 hc
  intro n
  induction n with
  | zero =>
    intro i k hi hk
    obtain ⟨k, rfl⟩ : ∃ m, k = m + 1 := ⟨k - 1, by omega⟩
    rw [spec_NullitiesByRows.l0, if_neg (by omega), show i = most by omega]
  | succ n ih =>
    intro i k hi hk
    obtain ⟨k, rfl⟩ : ∃ m, k = m + 1 := ⟨k - 1, by omega⟩
    rw [spec_NullitiesByRows.l0, if_pos (by omega), show ((i : Int) + 1) = ((i + 1 : Nat) : Int) from rfl, csNul_f c (by omega) own (i + 1) (by omega) k (by omega)]
    simp only [bs]
    rw [if_pos (by rw [nuls_length]; omega), ← nuls_succ, show (((i + 1 : Nat) : Int) + 1) = ((i + 2 : Nat) : Int) from rfl, wrapn _ (by omega)]
    exact ih (i + 1) k (by omega) (by omega)
theorem impl_l (c : Nat) (hc : c ≤ 8) (own : Bool) (most : Nat) (hm : most ≤ 200) : ∀ n i k, i + n = most → n < k → impl_NullitiesByRows.l0 k (c : Int) own (most : Int) (nuls c own i) ((i : Int) + 1) = some (nuls c own most, true) := by
  intro n
  induction n with
  | zero =>
    intro i k hi hk
    obtain ⟨k, rfl⟩ : ∃ m, k = m + 1 := ⟨k - 1, by omega⟩
    rw [impl_NullitiesByRows.l0, if_neg (by omega), show i = most by omega]
  | succ n ih =>
    intro i k hi hk
    obtain ⟨k, rfl⟩ : ∃ m, k = m + 1 := ⟨k - 1, by omega⟩
    rw [impl_NullitiesByRows.l0, if_pos (by omega), show ((i : Int) + 1) = ((i + 1 : Nat) : Int) from rfl, inul c (i + 1) own (by omega) (by omega)]
    simp only [bs]
    rw [if_pos (by rw [nuls_length]; omega), ← nuls_succ, show (((i + 1 : Nat) : Int) + 1) = ((i + 2 : Nat) : Int) from rfl, wrapn _ (by omega)]
    exact ih (i + 1) k (by omega) (by omega)
theorem both (c : Int) (own : Bool) (most : Int) : ∃ r : List Int × Bool, r.1.length ≤ 200 ∧ ∀ k, 1700 ≤ k → spec_NullitiesByRows.f k c own most = some r ∧ impl_NullitiesByRows.f k c own most = some r := by
  by_cases hc : 1 ≤ c ∧ c ≤ 8
  · by_cases hm : 0 ≤ most ∧ most ≤ 200
    · obtain ⟨c, rfl⟩ := Int.eq_ofNat_of_zero_le (show 0 ≤ c by omega)
      obtain ⟨most, rfl⟩ := Int.eq_ofNat_of_zero_le hm.1
      refine ⟨(nuls c own most, true), by rw [nuls_length]; omega, fun k hk => ?_⟩
      obtain ⟨k, rfl⟩ : ∃ m, k = m + 1 := ⟨k - 1, by omega⟩
      unfold spec_NullitiesByRows.f impl_NullitiesByRows.f
      rw [csWide_f, isWide_none, wide_0]
      simp only [bs]
      rw [decide_eq_true hc, if_pos rfl, if_pos rfl, l1In_f, in_f]
      simp only [bs]
      rw [decide_eq_true hm, spec_NullitiesByRows.j0, impl_NullitiesByRows.j0, if_neg (by decide), if_neg (by decide)]
      exact ⟨spec_l c (by omega) own most (by omega) most 0 k (by omega) (by omega), impl_l c (by omega) own most (by omega) most 0 k (by omega) (by omega)⟩
    · refine ⟨([], false), by simp, fun k hk => ?_⟩
      obtain ⟨k, rfl⟩ : ∃ m, k = m + 1 := ⟨k - 1, by omega⟩
      unfold spec_NullitiesByRows.f impl_NullitiesByRows.f
      rw [csWide_f, isWide_none, wide_0]
      simp only [bs]
      rw [decide_eq_true hc, if_pos rfl, if_pos rfl, l1In_f, in_f]
      simp only [bs]
      rw [decide_eq_false hm, spec_NullitiesByRows.j0, impl_NullitiesByRows.j0, if_pos (by decide), if_pos (by decide)]
      exact ⟨rfl, rfl⟩
  · refine ⟨([], false), by simp, fun k hk => ?_⟩
    obtain ⟨k, rfl⟩ : ∃ m, k = m + 1 := ⟨k - 1, by omega⟩
    unfold spec_NullitiesByRows.f impl_NullitiesByRows.f
    rw [csWide_f, isWide_none, wide_0]
    simp only [bs]
    rw [decide_eq_false hc, if_neg (by decide), if_neg (by decide), spec_NullitiesByRows.j0, impl_NullitiesByRows.j0, if_pos rfl, if_pos rfl]
    exact ⟨rfl, rfl⟩
theorem law_of {c own most : _} {l : List Int} {b : Bool} {K : Nat} (hl : l.length < 2 ^ 62) (hs : ∀ k, K ≤ k → spec_NullitiesByRows.f k c own most = some (l, b)) (hi : ∀ k, K ≤ k → impl_NullitiesByRows.f k c own most = some (l, b)) : laws_FnExactNullitiesByRows.f (K + l.length + 5) c own most = some true := by
  unfold laws_FnExactNullitiesByRows.f
  rw [hs _ (by omega)]
  simp only [bs]
  rw [hi _ (by omega)]
  simp only [bs]
  rw [eqIntS_self l hl _ (by omega)]
  simp only [bs, if_true, bne_self_eq_false]
  rw [laws_FnExactNullitiesByRows.j0, if_neg (by decide), mark_any l hl _ (by omega)]
  simp only [bs]
  rw [held_any l.length hl _ (by omega)]
  simp only [bs]
  rw [if_neg (by omega), if_true, hi _ (by omega)]
  simp only [bs]
  rw [eqIntS_self l hl _ (by omega)]
  simp only [bs, if_true, bne_self_eq_false]
  rw [laws_FnExactNullitiesByRows.j1, if_neg (by decide), held_any l.length hl _ (by omega)]
  simp only [bs]
  rw [if_neg (by omega), if_true]
theorem FnExactNullitiesByRows : laws_FnExactNullitiesByRows.Pure := by
  intro c own most _ _
  obtain ⟨⟨l, b⟩, hl, h⟩ := both c own most
  obtain ⟨K, hK⟩ : ∃ K : Nat, K = 1700 := ⟨_, rfl⟩
  exact ⟨_, law_of (K := K) (l := l) (b := b) (by dsimp only at hl; omega) (fun k hk => (h k (by omega)).1) (fun k hk => (h k (by omega)).2)⟩

end Go.Proofs.Ytfjkahkinkaheaa.Pure
