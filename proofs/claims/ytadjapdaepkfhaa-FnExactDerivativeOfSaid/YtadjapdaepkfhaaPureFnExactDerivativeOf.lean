/- DerivativeOf of the program and of the reference agree: for every p. -/
import Derived.Test.YtadjapdaepkfhaaLemFnExactDerivativeOf
namespace Go.Proofs.Ytadjapdaepkfhaa.Pure
open Go.RowKit Go.Proofs.Ytadjapdaepkfhaa.PFnExactDerivativeOf Go.Proofs.YtadjapdaepkfhaaW.PrintWords Go.Proofs.YtadjapdaepkfhaaW.PrintLast Go.Proofs.Ytadjapdaepkfhaa.Bit Go.Proofs.Ytadjapdaepkfhaa.Row Go.Proofs.Ytadjapdaepkfhaa.Lin Go.Proofs.Ytadjapdaepkfhaa.LemFnExactDerivativeOf Go.Proofs.Ytadjapdaepkfhaa.Gra Go.Proofs.Ytadjapdaepkfhaa.Pol

theorem law_of {p x : Int} {b : Bool} {k : Nat} (hs : spec_DerivativeOf.f k p = some (x, b)) (hi : impl_DerivativeOf.f k p = some (x, b)) : laws_FnExactDerivativeOf.f k p = some true := by
  unfold laws_FnExactDerivativeOf.f
  rw [hs, hi]
  simp only [bs, if_true, bne_self_eq_false]
  rfl
theorem yes (p : Nat) (h : 0 ≤ (p : Int) ∧ (p : Int) ≤ 2199023255551) : laws_FnExactDerivativeOf.f 120 (p : Int) = some true := by
        have hp : p < 2 ^ 41 := by omega
        refine law_of (x := ((derTo p 20 : Nat) : Int)) (b := true) ?_ ?_
        · unfold spec_DerivativeOf.f
          rw [poGood_f, decide_eq_true h]
          simp only [bs, if_true]
          exact spec_der_l p (by omega) 20 0 120 (by omega) (by omega)
        · unfold impl_DerivativeOf.f
          rw [isPoly_one, decide_eq_true h]
          simp only [bs, if_true]
          exact impl_der_l p (by omega) 20 0 120 (by omega) (by omega)
theorem FnExactDerivativeOf : laws_FnExactDerivativeOf.Pure := by
  intro p _
  refine ⟨120, ?_⟩
  by_cases h : 0 ≤ p ∧ p ≤ 2199023255551
  · obtain ⟨p, rfl⟩ := Int.eq_ofNat_of_zero_le h.1
    exact yes p h
  · refine law_of (x := 0) (b := false) ?_ ?_
    · unfold spec_DerivativeOf.f
      rw [poGood_f, decide_eq_false h]; rfl
    · unfold impl_DerivativeOf.f
      rw [isPoly_one, decide_eq_false h]; rfl

end Go.Proofs.Ytadjapdaepkfhaa.Pure
