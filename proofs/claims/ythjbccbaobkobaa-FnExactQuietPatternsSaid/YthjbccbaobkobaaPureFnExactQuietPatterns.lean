/- QuietPatterns of the program and of the reference agree, and their lists are new memory: for every graph. -/
import Derived.Test.YthjbccbaobkobaaLemFnExactQuietPatterns
namespace Go.Proofs.Ythjbccbaobkobaa.Pure
open Go.RowKit Go.Proofs.Ythjbccbaobkobaa.PFnExactQuietPatterns Go.Proofs.YthjbccbaobkobaaW.PrintWords Go.Proofs.YthjbccbaobkobaaW.PrintLast Go.Proofs.Ythjbccbaobkobaa.Bit Go.Proofs.Ythjbccbaobkobaa.Gra Go.Proofs.Ythjbccbaobkobaa.LemFnExactQuietPatterns
open Go.Proofs.Ythjbccbaobkobaa.Lin Go.Proofs.Ythjbccbaobkobaa.Ker Go.Proofs.Ythjbccbaobkobaa.Sol Go.Proofs.Ythjbccbaobkobaa.Sog Go.Proofs.Ythjbccbaobkobaa.Exd Go.Proofs.Ythjbccbaobkobaa.Eqp

theorem both (l : List Int) (own : Bool) : ∃ r : List Int × Bool, r.1.length ≤ 256 ∧ ∀ k, l.length + 3500 < k → spec_QuietPatterns.f k l own = some r ∧ impl_QuietPatterns.f l own = some r := by
  unfold spec_QuietPatterns.f impl_QuietPatterns.f spec_grGood.f qptF
  simp only [bs]
  cases h : goodB l with
  | false =>
    refine ⟨([], false), by simp, fun k hk => ?_⟩
    obtain ⟨k, rfl⟩ : ∃ m, k = m + 1 := ⟨k - 1, by omega⟩
    rw [if_neg (by decide), if_neg (by decide), spec_QuietPatterns.j0, if_pos rfl]
    exact ⟨rfl, rfl⟩
  | true =>
    obtain ⟨m, rfl, hg⟩ := good_zs h
    have h16 := hg.le
    have hln := refQ_len (tgls m own)
    rw [tgls_length] at hln
    have hlt : ∀ b ∈ refQ (tgls m own), b < 2 ^ 62 := fun b hb => by
      have h1 := ((refQ_kernel (tgls m own) b).1 (Sp.mem hb)).1
      rw [tgls_length] at h1
      exact Nat.lt_of_lt_of_le h1 (Nat.le_trans (pow16 hg) (by decide))
    by_cases h8 : (refQ (tgls m own)).length ≤ 8
    · have hM : 2 ^ (refQ (tgls m own)).length ≤ 256 := Nat.le_trans (Nat.pow_le_pow_right (by decide) h8) (by decide)
      refine ⟨(zs (Pat.sums (refQ (tgls m own))), true), ?_, fun k hk => ?_⟩
      · rw [zs_length, Pat.sums_len]; exact hM
      · obtain ⟨k, rfl⟩ : ∃ m, k = m + 1 := ⟨k - 1, by omega⟩
        rw [zs_length] at hk
        rw [if_pos rfl, soQuiet_f m hg own (k + 1) (by omega), efs, tn_zs, if_pos rfl]
        simp only [bs]
        rw [zs_length, decide_eq_false (by omega), spec_QuietPatterns.j0, if_neg (by decide), soQuiet_f m hg own k (by omega)]
        simp only [bs]
        have hfu : (refQ (tgls m own)).length * (256 + 3) ≤ 8 * (256 + 3) := Nat.mul_le_mul_right _ h8
        rw [soSums_f _ hlt (by omega) 256 hM k (by omega)]
        simp only [bs]
        unfold upTo8
        rw [if_pos h8]
        exact ⟨by first | rfl | trivial, by first | rfl | trivial⟩
    · refine ⟨([], false), by simp, fun k hk => ?_⟩
      obtain ⟨k, rfl⟩ : ∃ m, k = m + 1 := ⟨k - 1, by omega⟩
      rw [zs_length] at hk
      rw [if_pos rfl, soQuiet_f m hg own (k + 1) (by omega), efs, tn_zs, if_pos rfl]
      simp only [bs]
      rw [zs_length, decide_eq_true (by omega), spec_QuietPatterns.j0, if_pos rfl]
      unfold upTo8
      rw [if_neg h8]
      exact ⟨rfl, rfl⟩
theorem FnExactQuietPatterns (l : List Int) (own : Bool) (hl : l.length ≤ maxLen) (_ : ∀ x ∈ l, (Lit.int .i64 x).wf = true) : ∃ k, laws_FnExactQuietPatterns.f k l own = some true := by
  refine ⟨l.length + 4000, ?_⟩
  unfold laws_FnExactQuietPatterns.f
  rw [szGraph_f l own 1048576 hl (by decide) (by decide)]
  simp only [bs]
  by_cases h : (1048576 : Int) < (l.length : Int)
  · rw [if_pos h, if_pos (by decide)]
  · have hl2 : l.length < 2 ^ 40 := by omega
    obtain ⟨r', h0, hb⟩ := both l own
    have h1 := (hb (l.length + 4000) (by omega)).1
    have h2 := (hb (l.length + 4000) (by omega)).2
    have h3 := (hb (l.length + 3998) (by omega)).2
    rw [if_neg h, if_neg (by omega), toGraph_f l own hl2 _ (by omega)]
    simp only [bs]
    rw [h1]
    simp only [bs]
    rw [h2]
    simp only [bs]
    rw [eqIntS_self r'.1 (by omega) _ (by omega)]
    simp only [bs, if_true, bne_self_eq_false]
    rw [laws_FnExactQuietPatterns.j0, if_neg (by decide), toGraph_f l own hl2 _ (by omega)]
    simp only [bs]
    rw [eqGraph_self l own (by omega) _ (by omega)]
    simp only [bs, if_true]
    rw [markGraph_any l own (by omega) _ (by omega)]
    simp only [bs]
    rw [if_neg (by omega), eqIntS_self r'.1 (by omega) _ (by omega)]
    simp only [bs, if_true, bne_self_eq_false]
    rw [laws_FnExactQuietPatterns.j1, if_neg (by decide), mark_any r'.1 (by omega) _ (by omega)]
    simp only [bs]
    rw [held_any r'.1.length (by omega) _ (by omega)]
    simp only [bs]
    rw [if_neg (by omega), if_pos trivial, toGraph_f l own hl2 _ (by omega)]
    simp only [bs]
    rw [h3]
    simp only [bs]
    rw [eqIntS_self r'.1 (by omega) _ (by omega)]
    simp only [bs, if_true, bne_self_eq_false]
    rw [laws_FnExactQuietPatterns.j2, if_neg (by decide), held_any r'.1.length (by omega) _ (by omega)]
    simp only [bs]
    rw [if_neg (by omega), if_pos trivial]

end Go.Proofs.Ythjbccbaobkobaa.Pure
