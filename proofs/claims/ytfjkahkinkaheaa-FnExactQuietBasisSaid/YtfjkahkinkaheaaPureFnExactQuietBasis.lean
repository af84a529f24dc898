/- QuietBasis of the program and of the reference agree, for every graph. -/
import Derived.Test.YtfjkahkinkaheaaLemFnExactQuietBasis
namespace Go.Proofs.Ytfjkahkinkaheaa.Pure
open Go.RowKit Go.Proofs.Ytfjkahkinkaheaa.PFnExactQuietBasis Go.Proofs.YtfjkahkinkaheaaW.PrintWords Go.Proofs.YtfjkahkinkaheaaW.PrintLast Go.Proofs.Ytfjkahkinkaheaa.Bit Go.Proofs.Ytfjkahkinkaheaa.Gra Go.Proofs.Ytfjkahkinkaheaa.LemFnExactQuietBasis
open Go.Proofs.Ytfjkahkinkaheaa.Lin Go.Proofs.Ytfjkahkinkaheaa.Ker Go.Proofs.Ytfjkahkinkaheaa.Sol Go.Proofs.Ytfjkahkinkaheaa.Sog Go.Proofs.Ytfjkahkinkaheaa.Exp

theorem both (l : List Int) (own : Bool) : ∃ r : List Int × Bool, r.1.length ≤ 16 ∧ ∀ k, l.length + 1500 < k → spec_QuietBasis.f k l own = some r ∧ impl_QuietBasis.f l own = some r := by
  unfold spec_QuietBasis.f impl_QuietBasis.f spec_grGood.f quiF
  simp only [bs]
  cases h : goodB l with
  | false => exact ⟨([], false), by simp, fun k hk => ⟨if_neg (by decide), by rw [if_neg (by decide)]⟩⟩
  | true =>
    obtain ⟨m, rfl, hg⟩ := good_zs h
    have h16 := hg.le
    refine ⟨(zs (refQ (tgls m own)), true), ?_, fun k hk => ?_⟩
    · have := refQ_len (tgls m own)
      rw [tgls_length] at this
      rw [zs_length]
      omega
    · rw [zs_length] at hk
      rw [if_pos rfl, soQuiet_f m hg own k (by omega), efs, tn_zs, if_pos rfl]
      simp only [bs]
      exact ⟨by first | rfl | trivial, by first | rfl | trivial⟩
theorem FnExactQuietBasis (l : List Int) (own : Bool) (hl : l.length ≤ maxLen) (_ : ∀ x ∈ l, (Lit.int .i64 x).wf = true) : ∃ k, laws_FnExactQuietBasis.f k l own = some true := by
  refine ⟨l.length + 2000, ?_⟩
  unfold laws_FnExactQuietBasis.f
  rw [szGraph_f l own 1048576 hl (by decide) (by decide)]
  simp only [bs]
  by_cases h : (1048576 : Int) < (l.length : Int)
  · rw [if_pos h, if_pos (by decide)]
  · have hl2 : l.length < 2 ^ 40 := by omega
    obtain ⟨r', h0, hb⟩ := both l own
    have h1 := (hb (l.length + 2000) (by omega)).1
    have h2 := (hb (l.length + 2000) (by omega)).2
    have h3 := (hb (l.length + 1998) (by omega)).2
    rw [if_neg h, if_neg (by omega), toGraph_f l own hl2 _ (by omega)]
    simp only [bs]
    rw [h1]
    simp only [bs]
    rw [h2]
    simp only [bs]
    rw [eqIntS_self r'.1 (by omega) _ (by omega)]
    simp only [bs, if_true, bne_self_eq_false]
    rw [laws_FnExactQuietBasis.j0, if_neg (by decide), toGraph_f l own hl2 _ (by omega)]
    simp only [bs]
    rw [eqGraph_self l own (by omega) _ (by omega)]
    simp only [bs, if_true]
    rw [markGraph_any l own (by omega) _ (by omega)]
    simp only [bs]
    rw [if_neg (by omega), eqIntS_self r'.1 (by omega) _ (by omega)]
    simp only [bs, if_true, bne_self_eq_false]
    rw [laws_FnExactQuietBasis.j1, if_neg (by decide), mark_any r'.1 (by omega) _ (by omega)]
    simp only [bs]
    rw [held_any r'.1.length (by omega) _ (by omega)]
    simp only [bs]
    rw [if_neg (by omega), if_pos trivial, toGraph_f l own hl2 _ (by omega)]
    simp only [bs]
    rw [h3]
    simp only [bs]
    rw [eqIntS_self r'.1 (by omega) _ (by omega)]
    simp only [bs, if_true, bne_self_eq_false]
    rw [laws_FnExactQuietBasis.j2, if_neg (by decide), held_any r'.1.length (by omega) _ (by omega)]
    simp only [bs]
    rw [if_neg (by omega), if_pos trivial]

end Go.Proofs.Ytfjkahkinkaheaa.Pure
