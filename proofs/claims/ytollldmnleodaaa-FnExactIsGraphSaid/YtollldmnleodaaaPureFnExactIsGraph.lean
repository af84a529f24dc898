/- IsGraph of the program and of the reference agree and leave their argument alone: for every struct of a list and a bool. -/
import Derived.Test.YtollldmnleodaaaLemFnExactIsGraph
namespace Go.Proofs.Ytollldmnleodaaa.Pure
open Go.RowKit Go.Proofs.Ytollldmnleodaaa.PFnExactIsGraph Go.Proofs.YtollldmnleodaaaW.PrintWords Go.Proofs.YtollldmnleodaaaW.PrintLast Go.Proofs.Ytollldmnleodaaa.Bit Go.Proofs.Ytollldmnleodaaa.LemFnExactIsGraph

theorem FnExactIsGraph (l : List Int) (own : Bool) (hl : l.length ≤ maxLen) (_ : ∀ x ∈ l, (Lit.int .i64 x).wf = true) : ∃ k, laws_FnExactIsGraph.f k l own = some true := by
  refine ⟨l.length + 1, ?_⟩
  unfold laws_FnExactIsGraph.f
  rw [szGraph_f l own 1048576 hl (by decide) (by decide)]
  simp only [bs]
  by_cases h : (1048576 : Int) < (l.length : Int)
  · rw [if_pos h, if_pos (by decide)]
  · have hl2 : l.length < 2 ^ 40 := by omega
    rw [if_neg h, if_neg (by omega), toGraph_f l own hl2 _ (by omega)]
    unfold spec_IsGraph.f impl_IsGraph.f spec_grGood.f impl_isGraph.f
    simp only [bs, bne_self_eq_false, Bool.false_eq_true, if_false]
    rw [eqGraph_self l own (by omega) _ (by omega)]
    simp only [bs, if_true]

end Go.Proofs.Ytollldmnleodaaa.Pure
