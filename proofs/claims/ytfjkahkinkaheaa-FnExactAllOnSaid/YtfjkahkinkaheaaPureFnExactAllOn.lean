/- AllOn of the program and of the reference agree, for every graph. -/
import Derived.Test.YtfjkahkinkaheaaLemFnExactAllOn
import Derived.Test.YtfjkahkinkaheaaExq
namespace Go.Proofs.Ytfjkahkinkaheaa.Pure
open Go.RowKit Go.Proofs.Ytfjkahkinkaheaa.PFnExactAllOn Go.Proofs.YtfjkahkinkaheaaW.PrintWords Go.Proofs.YtfjkahkinkaheaaW.PrintLast Go.Proofs.Ytfjkahkinkaheaa.Bit Go.Proofs.Ytfjkahkinkaheaa.Gra Go.Proofs.Ytfjkahkinkaheaa.LemFnExactAllOn
open Go.Proofs.Ytfjkahkinkaheaa.Lin Go.Proofs.Ytfjkahkinkaheaa.Ker Go.Proofs.Ytfjkahkinkaheaa.Sol Go.Proofs.Ytfjkahkinkaheaa.Sog Go.Proofs.Ytfjkahkinkaheaa.Exp Go.Proofs.Ytfjkahkinkaheaa.Exq

theorem both (l : List Int) (own : Bool) (k : Nat) (hk : l.length + 1500 < k) : ∃ r, spec_AllOn.f k l own = some r ∧ impl_AllOn.f l own = some r := by
  unfold spec_AllOn.f impl_AllOn.f spec_grGood.f impl_SolveBoard.f slvF impl_whole.f mn
  cases h : goodB l with
  | false =>
    simp only [bs]
    refine ⟨(0, false), if_neg (by decide), ?_⟩
    rw [if_pos (by split <;> omega)]
    simp only [bs, okS, h]
    rfl
  | true =>
    obtain ⟨m, rfl, hg⟩ := good_zs h
    have h16 := hg.le
    have h1 := hg.pos
    rw [zs_length] at hk
    have hx16 : 2 ^ m.length - 1 < 2 ^ 16 := by
      have h2 := pow16 hg
      have h3 := Nat.two_pow_pos m.length
      omega
    have hmin : (if (16 : Int) < (m.length : Int) then (16 : Int) else (m.length : Int)) = (m.length : Int) := if_neg (by omega)
    have hok : okS (zs m) ((2 ^ m.length - 1 : Nat) : Int) = true := by
      unfold okS
      rw [h, zs_length, Bool.true_and, decide_eq_true_eq]
      exact ⟨Int.natCast_nonneg _, Int.le_refl _⟩
    simp only [bs]
    rw [zs_length, if_pos trivial, hmin, if_pos (Int.natCast_nonneg _), wholen _ (by omega)]
    generalize 2 ^ m.length - 1 = x at *
    have e : ans (tgls m own) x = tel (slvd (zs m) own (x : Int)) (red (refQ (efs (zs m) own)) (lef (zs m) own (x : Int))) false := by
      unfold ans tel slvd lef
      rw [efs_zs, Int.toNat_natCast]
      by_cases h0 : red (refP (tgls m own)) (x * 2 ^ (tgls m own).length) / 2 ^ (tgls m own).length = 0
      · rw [if_pos h0, decide_eq_true h0, if_pos rfl]
      · rw [if_neg h0, decide_eq_false h0, if_neg (by decide)]
    simp only [bs]
    rw [soSolve_f m hg own x hx16 k (by omega), e, if_pos hok]
    simp only [bs]
    exact ⟨_, rfl, rfl⟩
theorem FnExactAllOn (l : List Int) (own : Bool) (hl : l.length ≤ maxLen) (_ : ∀ x ∈ l, (Lit.int .i64 x).wf = true) : ∃ k, laws_FnExactAllOn.f k l own = some true := by
  refine ⟨l.length + 2000, ?_⟩
  unfold laws_FnExactAllOn.f
  rw [szGraph_f l own 1048576 hl (by decide) (by decide)]
  simp only [bs]
  by_cases h : (1048576 : Int) < (l.length : Int)
  · rw [if_pos h, if_pos (by decide)]
  · have hl2 : l.length < 2 ^ 40 := by omega
    obtain ⟨r, h1, h2⟩ := both l own (l.length + 2000) (by omega)
    rw [if_neg h, if_neg (by omega), toGraph_f l own hl2 _ (by omega)]
    simp only [bs]
    rw [h1]
    simp only [bs]
    rw [h2]
    simp only [bs]
    rw [if_pos trivial]
    simp only [bne_self_eq_false]
    rw [laws_FnExactAllOn.j0, if_neg (by decide), toGraph_f l own hl2 _ (by omega)]
    simp only [bs]
    rw [eqGraph_self l own (by omega) _ (by omega)]
    simp only [bs, if_true]

end Go.Proofs.Ytfjkahkinkaheaa.Pure
