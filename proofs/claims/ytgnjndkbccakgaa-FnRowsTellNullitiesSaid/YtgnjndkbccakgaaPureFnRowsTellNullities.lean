/- The pattern of rows tells the nullity of grids, is periodic, and has a quiet row exactly where told: for all bytes that the draws read. No conditions. -/
import Derived.Test.YtgnjndkbccakgaaLemFnRowsTellNullities
import Derived.Test.YtgnjndkbccakgaaQui
namespace Go.Proofs.Ytgnjndkbccakgaa.Pure
open Go.RowKit Go.Proofs.Ytgnjndkbccakgaa.PFnRowsTellNullities Go.Proofs.YtgnjndkbccakgaaW.PrintWords Go.Proofs.YtgnjndkbccakgaaW.PrintLast Go.Proofs.Ytgnjndkbccakgaa.Bit Go.Proofs.Ytgnjndkbccakgaa.Row Go.Proofs.Ytgnjndkbccakgaa.Lin Go.Proofs.Ytgnjndkbccakgaa.Gra Go.Proofs.Ytgnjndkbccakgaa.Ker Go.Proofs.Ytgnjndkbccakgaa.Cnt Go.Proofs.Ytgnjndkbccakgaa.Qui Go.Proofs.Ytgnjndkbccakgaa.LemFnRowsTellNullities

theorem qrs_qrl (c : Nat) (own : Bool) (f : Nat) : ∀ n, qrs c own f n = qrl c own f n
  | 0 => rfl
  | n + 1 => by
    show (if _ then qrs c own f n ++ [n] else qrs c own f n) = (if _ then qrl c own f n ++ [n] else qrl c own f n)
    rw [qrs_qrl c own f n]
theorem rd_nuls (c : Nat) (own : Bool) (n i : Nat) (h : i < n) : rd (nuls c own n) (i : Int) = ((c - (img (rws c own (i + 1))).length : Nat) : Int) := by
  unfold rd nuls
  rw [Int.toNat_natCast, List.getD_eq_getElem?_getD, List.getElem?_map, List.getElem?_range h]; rfl
/-- The loop over the nullities. -/
theorem nul_loop (c : Nat) (own : Bool) (hc1 : 1 ≤ c) (hc : c ≤ 8) (most : Nat) (hm : most ≤ 200) : ∀ n i k, i + n = most → n + 2000 < k → laws_FnRowsTellNullities.l1 k (c : Int) own (nuls c own most) (most : Int) (i : Int) = some true := by
  intro n
  induction n with
  | zero =>
    intro i k hi hk
    obtain ⟨k, rfl⟩ : ∃ m, k = m + 1 := ⟨k - 1, by omega⟩
    rw [laws_FnRowsTellNullities.l1, if_neg (by omega)]
  | succ n ih =>
    intro i k hi hk
    obtain ⟨k, rfl⟩ : ∃ m, k = m + 1 := ⟨k - 1, by omega⟩
    rw [laws_FnRowsTellNullities.l1, if_pos (by omega), if_pos (Int.natCast_nonneg _), if_pos (by rw [nuls_length]; omega), show ((i : Int) + 1) = ((i + 1 : Nat) : Int) from rfl, wrapn _ (by omega), impl_Nul_f (i + 1) c own (by omega) (by omega) hc1 hc]
    simp only [bs, if_true]
    rw [rd_nuls c own most i (by omega), if_pos rfl]
    exact ih (i + 1) k (by omega) (by omega)
theorem l0_end {l0 : List Int} (hb : Byt l0) (c0 f0 : Int) (own0 : Bool) (q : List Int) (n : Int) (k : Nat) (hk : 4000 ≤ k) : laws_FnRowsTellNullities.l0 k l0 c0 own0 f0 q q n n = some true := by
  obtain ⟨k, rfl⟩ : ∃ m, k = m + 1 := ⟨k - 1, by omega⟩
  obtain ⟨c, own, f, m, e1⟩ := drawRB_t hb
  obtain ⟨c2, own2, m2, e2⟩ := drawNuB_t hb
  obtain ⟨r, h1, h2⟩ := rbh_all c own f m k (by omega)
  rw [laws_FnRowsTellNullities.l0, if_neg (Int.lt_irrefl _), e1]
  simp only [bs]
  rw [h1, h2]
  simp only [bs]
  rw [e2]
  simp only [bs]
  rcases nus_all c2 own2 m2 k (by omega) with ⟨h3, h4⟩ | ⟨c', m', rfl, rfl, g1, g2, g3, h3, h4⟩
  · rw [h4, h3]
    simp only [bs, bne_self_eq_false, Bool.false_eq_true, if_false, if_true]
    rw [hSame_self _ (by decide) _ (by simp; omega)]
    simp only [bs, Bool.not_true]
    obtain ⟨k, rfl⟩ : ∃ m, k = m + 2 := ⟨k - 2, by omega⟩
    rw [laws_FnRowsTellNullities.j8, if_neg (by decide), laws_FnRowsTellNullities.l1, if_neg (by decide)]
  · rw [h4, h3]
    simp only [bs, bne_self_eq_false, Bool.false_eq_true, if_false, if_true]
    rw [hSame_self _ (by rw [nuls_length]; omega) _ (by rw [nuls_length]; omega)]
    simp only [bs, Bool.not_true]
    obtain ⟨k, rfl⟩ : ∃ m, k = m + 1 := ⟨k - 1, by omega⟩
    rw [laws_FnRowsTellNullities.j8, if_neg (by decide), nuls_length]
    exact nul_loop c' own2 g1 g2 m' g3 m' 0 k (by omega) (by omega)
/-- The loop over quiet rows. -/
theorem quiet_loop {l0 : List Int} (hb : Byt l0) (c : Nat) (own : Bool) (f most : Nat) (hc1 : 1 ≤ c) (hc : c ≤ 8) (hf : f < 2 ^ c) (hf0 : f ≠ 0) (hm : most ≤ 200) (D : Nat) (hD : 2 ≤ D) (hz : ∀ k, (cr c own 0 f k).2 = 0 ↔ (k + 1) % D = 0)
    (q : List Int) (hq : q = zs ((List.range ((most + 1) / D)).map fun i => (i + 1) * D - 1)) : ∀ n i k, i + n = q.length → n + 4000 < k → laws_FnRowsTellNullities.l0 k l0 (c : Int) own (f : Int) q q (q.length : Int) (i : Int) = some true := by
  have hlen : q.length = (most + 1) / D := by rw [hq, zs_length, List.length_map, List.length_range]
  have hrd : ∀ i, i < q.length → rd q (i : Int) = (((i + 1) * D - 1 : Nat) : Int) ∧ 1 ≤ (i + 1) * D - 1 ∧ (i + 1) * D ≤ 201 := fun i hi => by
    rw [hlen] at hi
    have h1 : (i + 1) * D ≤ most + 1 := (Nat.le_div_iff_mul_le (by omega)).1 (by omega)
    have h2 : 1 * D ≤ (i + 1) * D := Nat.mul_le_mul_right _ (by omega)
    refine ⟨?_, by omega, by omega⟩
    rw [hq, rd_zs, List.getD_eq_getElem?_getD, List.getElem?_map, List.getElem?_range hi]; rfl
  intro n
  induction n with
  | zero =>
    intro i k hi hk
    obtain rfl : i = q.length := by omega
    exact l0_end hb _ _ _ _ _ k (by omega)
  | succ n ih =>
    intro i k hi hk
    obtain ⟨k, rfl⟩ : ∃ m, k = m + 1 := ⟨k - 1, by omega⟩
    obtain ⟨r1, r2, r3⟩ := hrd i (by omega)
    obtain ⟨s1, s2, s3⟩ := hrd 0 (by omega)
    have hle : i + 1 ≤ (i + 1) * D := Nat.le_mul_of_pos_right _ (by omega)
    have ihs := ih (i + 1) k (by omega) (by omega)
    rw [Nat.zero_add, Nat.one_mul] at s1 s2 s3
    have h0 : (cr c own 0 f ((i + 1) * D - 1)).2 = 0 := (hz _).2 (by rw [show (i + 1) * D - 1 + 1 = (i + 1) * D by omega, Nat.mul_mod_left])
    have hp := null_pos (c := c) (own := own) ((i + 1) * D - 1) hf hf0 h0
    rw [laws_FnRowsTellNullities.l0, if_pos (by omega), if_pos (Int.natCast_nonneg _), if_pos (by omega), r1, irb_f c hc1 hc own f hf _ (by omega), impl_Nul_f _ c own (by omega) (by omega) hc1 hc]
    simp only [bs, if_true]
    rw [h0, if_pos (show ((0 : Nat) : Int) = 0 from rfl), if_neg (by omega), if_pos (by omega), show (0 : Int) = ((0 : Nat) : Int) from rfl, s1]
    have e1 : wrap64 ((((i + 1) * D - 1 : Nat) : Int) + 1) = (((i + 1) * D : Nat) : Int) := by
      rw [show (((i + 1) * D - 1 : Nat) : Int) + 1 = (((i + 1) * D : Nat) : Int) by omega, wrapn _ (by omega)]
    have e2 : wrap64 (((D - 1 : Nat) : Int) + 1) = (D : Int) := by
      rw [show ((D - 1 : Nat) : Int) + 1 = (D : Int) by omega, wrapn _ (by omega)]
    have b3 : i + 1 < 2 ^ 63 := Nat.lt_of_le_of_lt hle (Nat.lt_of_le_of_lt r3 (by decide))
    have b4 : (i + 1) * D < 2 ^ 63 := Nat.lt_of_le_of_lt r3 (by decide)
    have e3 : wrap64 ((i : Int) + 1) = ((i + 1 : Nat) : Int) := wrapn (i + 1) b3
    have e4 : wrap64 (((i + 1 : Nat) : Int) * (D : Int)) = (((i + 1) * D : Nat) : Int) := by
      rw [← Int.natCast_mul]
      exact wrapn _ b4
    rw [e1, e2, e3, e4, if_pos rfl]
    exact ihs
theorem part5 {l0 l1 : List Int} (hb0 : Byt l0) (hb1 : Byt l1) (k : Nat) (hk : 5000 ≤ k) : laws_FnRowsTellNullities.j5 k l0 l1 = some true := by
  obtain ⟨k, rfl⟩ : ∃ m, k = m + 2 := ⟨k - 2, by omega⟩
  obtain ⟨c, own, f, m, e⟩ := drawQR_t hb1
  rw [laws_FnRowsTellNullities.j5, e]
  simp only [bs]
  rcases qr_all c own f m (k + 1) (by omega) with ⟨h1, h2⟩ | ⟨c, f, m, rfl, rfl, rfl, g1, g2, g3, g4, g5, h1, h2⟩
  · rw [h1, h2]
    simp only [bs, bne_self_eq_false, Bool.false_eq_true, if_false]
    rw [hSame_self _ (by decide) _ (by simp)]
    simp only [bs, Bool.not_true]
    rw [laws_FnRowsTellNullities.j6, if_neg (by decide)]
    exact l0_end hb0 _ _ _ _ _ k (by omega)
  · have hl := qrs_len c own f (m + 1)
    rw [h1, h2]
    simp only [bs, bne_self_eq_false, Bool.false_eq_true, if_false]
    rw [hSame_self _ (by rw [zs_length]; omega) _ (by rw [zs_length]; omega)]
    simp only [bs, Bool.not_true]
    rw [laws_FnRowsTellNullities.j6, if_neg (by decide), qrs_qrl]
    rw [qrs_qrl] at hl
    rcases qrl_all (c := c) (own := own) (f := f) g4 (m + 1) with h3 | ⟨D, hD, hz, h3⟩
    · rw [h3]
      exact l0_end hb0 _ _ _ _ _ k (by omega)
    · have hll : (zs (qrl c own f (m + 1))).length ≤ m + 1 := by rw [zs_length]; exact hl
      exact quiet_loop hb0 c own f m g1 g2 g3 g4 g5 D hD hz _ (by rw [h3]) _ 0 k (Nat.zero_add _) (by omega)
theorem part2 {l0 l1 : List Int} (hb0 : Byt l0) (hb1 : Byt l1) (k : Nat) (hk : 6000 ≤ k) : laws_FnRowsTellNullities.j2 k l0 l1 = some true := by
  obtain ⟨k, rfl⟩ : ∃ m, k = m + 3 := ⟨k - 3, by omega⟩
  obtain ⟨c, own, f, e⟩ := drawRP_t hb1
  obtain ⟨t, t1, t2⟩ := rtg_all c own f
  rw [laws_FnRowsTellNullities.j2, e]
  simp only [bs]
  rcases per_all2 c own f (k + 2) (by omega) with ⟨h1, h2⟩ | ⟨c, f, rfl, rfl, g1, g2, g3, g4, h1, h2⟩
  · rw [h1, h2, t1, t2]
    simp only [bs, bne_self_eq_false, Bool.false_eq_true, if_false, if_true]
    rw [laws_FnRowsTellNullities.j3, if_neg (by decide), if_neg (by decide), laws_FnRowsTellNullities.j4, if_neg (by decide)]
    exact part5 hb0 hb1 k (by omega)
  · obtain ⟨p1, p2, p3, p4⟩ := per_is c g2 own f g3 g4
    rw [h1, h2, t1, t2]
    simp only [bs, bne_self_eq_false, Bool.false_eq_true, if_false, if_true]
    rw [laws_FnRowsTellNullities.j3, if_neg (by decide), if_pos rfl, laws_FnRowsTellNullities.j4]
    by_cases h200 : ((per c own f : Nat) : Int) ≤ 200
    · have e1 : (cr c own 0 f (per c own f)).2 = f := by rw [p3]
      have e2 : (cr c own 0 f (per c own f - 1)).2 = 0 := by
        have h5 : (cr c own 0 f (per c own f)).1 = 0 := by rw [p3]
        obtain ⟨d, hd⟩ : ∃ d, per c own f = d + 1 := ⟨per c own f - 1, by omega⟩
        rw [hd] at h5
        rw [hd, Nat.add_sub_cancel]
        exact h5
      rw [if_pos (decide_eq_true h200), irb_f c g1 (by omega) own f g3 _ (by omega), show ((per c own f : Nat) : Int) - 1 = ((per c own f - 1 : Nat) : Int) by omega, wrapn _ (by omega), irb_f c g1 (by omega) own f g3 _ (by omega), e1, e2]
      simp only [bs, if_true]
      rw [if_pos (show ((0 : Nat) : Int) = 0 from rfl)]
      exact part5 hb0 hb1 k (by omega)
    · rw [if_neg (by rw [decide_eq_true_eq]; exact h200)]
      exact part5 hb0 hb1 k (by omega)
theorem FnRowsTellNullities : laws_FnRowsTellNullities.Pure := by
  intro l0 l1 _ hl0 hw0 _ hl1 hw1
  have hb0 : Byt l0 := Byt.of (by omega) hw0
  have hb1 : Byt l1 := Byt.of (by omega) hw1
  obtain ⟨r, c, own, e⟩ := drawNBR_t hb0
  refine ⟨10002, ?_⟩
  unfold laws_FnRowsTellNullities.f laws_big.f
  by_cases g1 : (l0.length : Int) > 1048576
  · rw [if_pos g1]
    simp only [bs, if_true]
  rw [if_neg g1, wrapi (n := 1048576 - (l0.length : Int)) (by omega) (by omega)]
  simp only [bs]
  by_cases g2 : (l1.length : Int) > 1048576 - (l0.length : Int)
  · rw [if_pos (decide_eq_true g2)]
  rw [if_neg (by rw [decide_eq_false g2]; decide), e]
  simp only [bs]
  rcases nul_all r c own 10002 (by omega) with ⟨h1, h2⟩ | ⟨r, c, rfl, rfl, g3, g4, g5, g6, h1, h2⟩
  · rw [h1, h2]
    simp only [bs, bne_self_eq_false, Bool.false_eq_true, if_false]
    rw [laws_FnRowsTellNullities.j0, if_neg (by decide), if_neg (by decide), laws_FnRowsTellNullities.j1, if_neg (by decide)]
    exact part2 hb0 hb1 _ (by omega)
  · rw [h1, h2]
    simp only [bs, bne_self_eq_false, Bool.false_eq_true, if_false]
    rw [laws_FnRowsTellNullities.j0, if_neg (by decide), if_pos rfl, laws_FnRowsTellNullities.j1]
    have hrc : r * c ≤ 200 * 8 := Nat.mul_le_mul g4 g6
    rw [← Int.natCast_mul, wrapn _ (by omega)]
    by_cases h16 : r * c ≤ 16
    · have hr : r ≤ 16 := Nat.le_trans (Nat.le_mul_of_pos_right _ g5) h16
      have h16' : c * r ≤ 16 := by rw [Nat.mul_comm]; exact h16
      rw [if_pos (by rw [decide_eq_true_eq]; omega), gridG_f r c own g3 hr g5 (by omega) h16' 10000 (by omega)]
      simp only [bs]
      rw [gridN_f r c own g3 hr g5 (by omega) h16']
      simp only [bs, if_true]
      exact part2 hb0 hb1 _ (by omega)
    · rw [if_neg (by rw [decide_eq_true_eq]; omega)]
      exact part2 hb0 hb1 _ (by omega)
end Go.Proofs.Ytgnjndkbccakgaa.Pure
