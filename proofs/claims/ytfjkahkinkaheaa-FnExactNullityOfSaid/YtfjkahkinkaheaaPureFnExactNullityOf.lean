/- NullityOf of the program and of the reference agree, for every graph. -/
import Derived.Test.YtfjkahkinkaheaaLemFnExactNullityOf
namespace Go.Proofs.Ytfjkahkinkaheaa.Pure
open Go.RowKit Go.Proofs.Ytfjkahkinkaheaa.PFnExactNullityOf Go.Proofs.YtfjkahkinkaheaaW.PrintWords Go.Proofs.YtfjkahkinkaheaaW.PrintLast Go.Proofs.Ytfjkahkinkaheaa.Bit Go.Proofs.Ytfjkahkinkaheaa.Gra Go.Proofs.Ytfjkahkinkaheaa.LemFnExactNullityOf
open Go.Proofs.Ytfjkahkinkaheaa.Lin Go.Proofs.Ytfjkahkinkaheaa.Ker Go.Proofs.Ytfjkahkinkaheaa.Sol Go.Proofs.Ytfjkahkinkaheaa.Sog Go.Proofs.Ytfjkahkinkaheaa.Exp

theorem both (l : List Int) (own : Bool) (k : Nat) (hk : l.length + 1500 < k) : ∃ r, spec_NullityOf.f k l own = some r ∧ impl_NullityOf.f l own = some r := by
  unfold spec_NullityOf.f impl_NullityOf.f spec_grGood.f nullF
  simp only [bs]
  cases h : goodB l with
  | false => exact ⟨(0, false), if_neg (by decide), by rw [if_neg (by decide)]⟩
  | true =>
    obtain ⟨m, rfl, hg⟩ := good_zs h
    rw [zs_length] at hk
    have h16 := hg.le
    rw [if_pos rfl, soQuiet_f m hg own k (by omega), efs, tn_zs, if_pos rfl]
    simp only [bs]
    exact ⟨_, rfl, by rw [zs_length]⟩
theorem FnExactNullityOf (l : List Int) (own : Bool) (hl : l.length ≤ maxLen) (_ : ∀ x ∈ l, (Lit.int .i64 x).wf = true) : ∃ k, laws_FnExactNullityOf.f k l own = some true := by
  refine ⟨l.length + 2000, ?_⟩
  unfold laws_FnExactNullityOf.f
  rw [szGraph_f l own 1048576 hl (by decide) (by decide)]
  simp only [bs]
  by_cases h : (1048576 : Int) < (l.length : Int)
  · rw [if_pos h, if_pos (by decide)]
  · have hl2 : l.length < 2 ^ 40 := by omega
    obtain ⟨r, h1, h2⟩ := both l own (l.length + 2000) (by omega)
    rw [if_neg h, if_neg (by omega), toGraph_f l own hl2 _ (by omega)]
    simp only [bs]
    rw [h1]
    simp only [bs]
    rw [h2]
    simp only [bs]
    rw [if_pos trivial]
    simp only [bne_self_eq_false]
    rw [laws_FnExactNullityOf.j0, if_neg (by decide), toGraph_f l own hl2 _ (by omega)]
    simp only [bs]
    rw [eqGraph_self l own (by omega) _ (by omega)]
    simp only [bs, if_true]

end Go.Proofs.Ytfjkahkinkaheaa.Pure
