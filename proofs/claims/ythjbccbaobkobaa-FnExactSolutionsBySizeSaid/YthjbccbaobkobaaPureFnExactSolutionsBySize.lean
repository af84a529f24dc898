/- SolutionsBySize of the program and of the reference agree, and their lists are new memory: for every graph and number. -/
import Derived.Test.YthjbccbaobkobaaLemFnExactSolutionsBySize
namespace Go.Proofs.Ythjbccbaobkobaa.Pure
open Go.RowKit Go.Proofs.Ythjbccbaobkobaa.PFnExactSolutionsBySize Go.Proofs.YthjbccbaobkobaaW.PrintWords Go.Proofs.YthjbccbaobkobaaW.PrintLast Go.Proofs.Ythjbccbaobkobaa.Bit Go.Proofs.Ythjbccbaobkobaa.Gra Go.Proofs.Ythjbccbaobkobaa.LemFnExactSolutionsBySize
open Go.Proofs.Ythjbccbaobkobaa.Lin Go.Proofs.Ythjbccbaobkobaa.Ker Go.Proofs.Ythjbccbaobkobaa.Sol Go.Proofs.Ythjbccbaobkobaa.Sog Go.Proofs.Ythjbccbaobkobaa.Exd Go.Proofs.Ythjbccbaobkobaa.Esz

theorem both (l : List Int) (own : Bool) (a : Int) : ∃ r : List Int × Bool, r.1.length ≤ 256 ∧ ∀ k, l.length + 3500 < k → spec_SolutionsBySize.f k l own a = some r ∧ impl_SolutionsBySize.f l own a = some r := by
  unfold spec_SolutionsBySize.f impl_SolutionsBySize.f szF
  rw [grSet0_f]
  simp only [bs]
  rw [show (goodB l && decide (0 ≤ a ∧ a ≤ ((2 ^ l.length - 1 : Nat) : Int))) = okS l a from rfl]
  cases h : okS l a with
  | false =>
    refine ⟨([], false), by simp, fun k hk => ?_⟩
    obtain ⟨k, rfl⟩ : ∃ m, k = m + 1 := ⟨k - 1, by omega⟩
    rw [if_neg (by decide), if_neg (by decide), spec_SolutionsBySize.j0, if_pos rfl]
    exact ⟨rfl, rfl⟩
  | true =>
    unfold okS at h
    rw [Bool.and_eq_true, decide_eq_true_eq] at h
    obtain ⟨hG, hx0, hx1⟩ := h
    obtain ⟨x, rfl⟩ := Int.eq_ofNat_of_zero_le hx0
    obtain ⟨m, rfl, hg⟩ := good_zs hG
    have h16 := hg.le
    rw [zs_length] at hx1
    have hx16 : x < 2 ^ 16 := by
      have h1 : x ≤ 2 ^ m.length - 1 := by exact_mod_cast hx1
      have h2 := pow16 hg
      have h3 := Nat.two_pow_pos m.length
      exact Nat.lt_of_lt_of_le (show x < 2 ^ m.length by omega) h2
    clear hG hx0 hx1
    have hltn : ∀ b ∈ refQ (tgls m own), b < 2 ^ m.length := fun b hb => by
      have h1 := ((refQ_kernel (tgls m own) b).1 (Sp.mem hb)).1
      rwa [tgls_length] at h1
    have hlt62 : ∀ b ∈ refQ (tgls m own), b < 2 ^ 62 := fun b hb => Nat.lt_of_lt_of_le (hltn b hb) (Nat.le_trans (pow16 hg) (by decide))
    rw [if_pos rfl, efs_zs, zs_length]
    by_cases h8 : (refQ (tgls m own)).length ≤ 8
    · have hM : 2 ^ (refQ (tgls m own)).length ≤ 256 := Nat.le_trans (Nat.pow_le_pow_right (by decide) h8) (by decide)
      have hfu : (refQ (tgls m own)).length * (256 + 3) ≤ 8 * (256 + 3) := Nat.mul_le_mul_right _ h8
      have hmake : ∀ k, spec_SolutionsBySize.j0 (k + 1) (x : Int) false (zs m) own = (spec_soSolve.f k (zs m) own (x : Int)).bind fun bt204 => (if bt204.2 = true then ((spec_soQuiet.f k (zs m) own).bind fun t206 => ((spec_soSums.f k t206).bind fun t209 => (spec_SolutionsBySize.l0 k (List.replicate (m.length + 1) 0) bt204.1 t209 (t209.length : Int) 0))) else (some (List.replicate (m.length + 1) 0, true))) := fun k => by
        rw [spec_SolutionsBySize.j0, if_neg (by decide), zs_length, show ((m.length : Int) + 1) = ((m.length + 1 : Nat) : Int) from rfl, wrapn _ (by omega), if_pos (Int.natCast_nonneg _), Int.toNat_natCast, if_pos (by omega)]
        simp only [bs]
      unfold szR
      rw [if_pos h8]
      by_cases h0 : red (refP (tgls m own)) (x * 2 ^ (tgls m own).length) / 2 ^ (tgls m own).length = 0
      · have hp := (refP_presses (tgls m own) h0).1
        rw [tgls_length] at hp
        have hsv : slvd (zs m) own (x : Int) = true := by
          unfold slvd lef
          rw [efs_zs, Int.toNat_natCast]; exact decide_eq_true h0
        have hle : lef (zs m) own (x : Int) = red (refP (tgls m own)) (x * 2 ^ (tgls m own).length) := by
          unfold lef
          rw [efs_zs, Int.toNat_natCast]
        have hone : red (refQ (tgls m own)) (red (refP (tgls m own)) (x * 2 ^ (tgls m own).length)) < 2 ^ m.length := red_lt hltn (by rw [tgls_length]; exact hp)
        have han : ans (tgls m own) x = (((red (refQ (tgls m own)) (red (refP (tgls m own)) (x * 2 ^ (tgls m own).length)) : Nat) : Int), true) := if_pos h0
        rw [hsv, hle, if_pos rfl]
        generalize red (refQ (tgls m own)) (red (refP (tgls m own)) (x * 2 ^ (tgls m own).length)) = one at *
        refine ⟨(tally one (Pat.sums (refQ (tgls m own))) m.length, true), by show (tally _ _ _).length ≤ 256; rw [tally_len]; omega, fun k hk => ?_⟩
        obtain ⟨k, rfl⟩ : ∃ m, k = m + 1 := ⟨k - 1, by omega⟩
        rw [if_pos rfl, soQuiet_f m hg own (k + 1) (by omega)]
        simp only [bs]
        rw [zs_length, decide_eq_false (by omega), hmake, soSolve_f m hg own x hx16 k (by omega), han]
        simp only [bs]
        rw [if_pos trivial, soQuiet_f m hg own k (by omega)]
        simp only [bs]
        rw [soSums_f _ hlt62 (by omega) 256 hM k (by omega)]
        simp only [bs]
        have hsl : (Pat.sums (refQ (tgls m own))).length ≤ 256 := by rw [Pat.sums_len]; exact hM
        have := ssz_l one m.length h16 hone (Pat.sums (refQ (tgls m own))) (fun q hq => Sp.lt hltn (Pat.sums_sp _ q hq)) (by omega) (Pat.sums (refQ (tgls m own))).length 0 k (by omega) (by omega)
        rw [List.take_zero] at this
        rw [zs_length]
        exact ⟨this, trivial⟩
      · have hsv : slvd (zs m) own (x : Int) = false := by
          unfold slvd lef
          rw [efs_zs, Int.toNat_natCast]; exact decide_eq_false h0
        have han : ans (tgls m own) x = (0, false) := if_neg h0
        rw [hsv, if_neg (by decide)]
        refine ⟨(List.replicate (m.length + 1) 0, true), by show (List.replicate _ _).length ≤ 256; rw [List.length_replicate]; omega, fun k hk => ?_⟩
        obtain ⟨k, rfl⟩ : ∃ m, k = m + 1 := ⟨k - 1, by omega⟩
        rw [if_pos rfl, soQuiet_f m hg own (k + 1) (by omega)]
        simp only [bs]
        rw [zs_length, decide_eq_false (by omega), hmake, soSolve_f m hg own x hx16 k (by omega), han]
        simp only [bs]
        exact ⟨by simp, trivial⟩
    · refine ⟨([], false), by simp, fun k hk => ?_⟩
      obtain ⟨k, rfl⟩ : ∃ m, k = m + 1 := ⟨k - 1, by omega⟩
      rw [if_pos rfl, soQuiet_f m hg own (k + 1) (by omega)]
      simp only [bs]
      rw [zs_length, decide_eq_true (by omega), spec_SolutionsBySize.j0, if_pos rfl]
      unfold szR
      rw [if_neg h8]
      exact ⟨rfl, rfl⟩
theorem FnExactSolutionsBySize (l : List Int) (own : Bool) (a : Int) (hl : l.length ≤ maxLen) (_ : ∀ x ∈ l, (Lit.int .i64 x).wf = true) (_ : (Lit.int .i64 a).wf = true) : ∃ k, laws_FnExactSolutionsBySize.f k l own a = some true := by
  refine ⟨l.length + 4000, ?_⟩
  unfold laws_FnExactSolutionsBySize.f
  rw [szGraph_f l own 1048576 hl (by decide) (by decide)]
  simp only [bs]
  by_cases h : (1048576 : Int) < (l.length : Int)
  · rw [if_pos h, if_pos (by decide)]
  · have hl2 : l.length < 2 ^ 40 := by omega
    obtain ⟨r', h0, hb⟩ := both l own a
    have h1 := (hb (l.length + 4000) (by omega)).1
    have h2 := (hb (l.length + 4000) (by omega)).2
    have h3 := (hb (l.length + 3998) (by omega)).2
    rw [if_neg h, if_neg (by omega), toGraph_f l own hl2 _ (by omega)]
    simp only [bs]
    rw [h1]
    simp only [bs]
    rw [h2]
    simp only [bs]
    rw [eqIntS_self r'.1 (by omega) _ (by omega)]
    simp only [bs, if_true, bne_self_eq_false]
    rw [laws_FnExactSolutionsBySize.j0, if_neg (by decide), toGraph_f l own hl2 _ (by omega)]
    simp only [bs]
    rw [eqGraph_self l own (by omega) _ (by omega)]
    simp only [bs, if_true]
    rw [markGraph_any l own (by omega) _ (by omega)]
    simp only [bs]
    rw [if_neg (by omega), eqIntS_self r'.1 (by omega) _ (by omega)]
    simp only [bs, if_true, bne_self_eq_false]
    rw [laws_FnExactSolutionsBySize.j1, if_neg (by decide), mark_any r'.1 (by omega) _ (by omega)]
    simp only [bs]
    rw [held_any r'.1.length (by omega) _ (by omega)]
    simp only [bs]
    rw [if_neg (by omega), if_pos trivial, toGraph_f l own hl2 _ (by omega)]
    simp only [bs]
    rw [h3]
    simp only [bs]
    rw [eqIntS_self r'.1 (by omega) _ (by omega)]
    simp only [bs, if_true, bne_self_eq_false]
    rw [laws_FnExactSolutionsBySize.j2, if_neg (by decide), held_any r'.1.length (by omega) _ (by omega)]
    simp only [bs]
    rw [if_neg (by omega), if_pos trivial]

end Go.Proofs.Ythjbccbaobkobaa.Pure
