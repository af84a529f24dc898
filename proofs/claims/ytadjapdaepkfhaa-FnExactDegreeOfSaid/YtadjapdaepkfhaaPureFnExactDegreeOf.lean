/- DegreeOf of the program and of the reference agree: for every p. -/
import Derived.Test.YtadjapdaepkfhaaLemFnExactDegreeOf
namespace Go.Proofs.Ytadjapdaepkfhaa.Pure
open Go.RowKit Go.Proofs.Ytadjapdaepkfhaa.PFnExactDegreeOf Go.Proofs.YtadjapdaepkfhaaW.PrintWords Go.Proofs.YtadjapdaepkfhaaW.PrintLast Go.Proofs.Ytadjapdaepkfhaa.Bit Go.Proofs.Ytadjapdaepkfhaa.Row Go.Proofs.Ytadjapdaepkfhaa.Lin Go.Proofs.Ytadjapdaepkfhaa.LemFnExactDegreeOf Go.Proofs.Ytadjapdaepkfhaa.Gra

theorem FnExactDegreeOf : laws_FnExactDegreeOf.Pure := by
  intro p _
  refine ⟨63, ?_⟩
  unfold laws_FnExactDegreeOf.f spec_DegreeOf.f impl_DegreeOf.f
  rw [poGood_f, isPoly_one]
  simp only [bs]
  by_cases h : 0 ≤ p ∧ p ≤ 2199023255551
  · obtain ⟨p, rfl⟩ := Int.eq_ofNat_of_zero_le h.1
    rw [decide_eq_true h, if_pos rfl, if_pos rfl, poDegree_f p (by omega) 63 (by omega), degree_f p (by omega)]
    simp only [bs, if_true, bne_self_eq_false]
    rfl
  · rw [decide_eq_false h]; rfl

end Go.Proofs.Ytadjapdaepkfhaa.Pure
