/- CircleGraph of the program and of the reference agree, and their graphs are new memory: for every n and own. For n in 3..16 the printed law is reckoned out; for other n both fail. -/
import Derived.Test.YtollldmnleodaaaPFnExactCircleGraphx3
namespace Go.Proofs.Ytollldmnleodaaa.Pure
open Go.RowKit Go.Proofs.Ytollldmnleodaaa.PFnExactCircleGraph Go.Proofs.YtollldmnleodaaaW.PrintWords Go.Proofs.YtollldmnleodaaaW.PrintLast

theorem all : ∀ n : Fin 17, ∀ b : Bool, 3 ≤ n.val → laws_FnExactCircleGraph.f 60 (n.val : Int) b = some true := by decide +kernel

theorem FnExactCircleGraph : laws_FnExactCircleGraph.Pure := by
  intro n own _
  refine ⟨60, ?_⟩
  by_cases h : 3 ≤ n ∧ n ≤ 16
  · have := all ⟨n.toNat, by omega⟩ own (by show 3 ≤ n.toNat; omega)
    rwa [show ((⟨n.toNat, by omega⟩ : Fin 17).val : Int) = n from by show (n.toNat : Int) = n; omega] at this
  · have h1 : ∀ k, spec_CircleGraph.f k n own = some ([], false, false) := by
      intro k
      have : spec_l1In.f n 3 16 = some false := by
        unfold spec_l1In.f
        split
        · simp; omega
        · rfl
      unfold spec_CircleGraph.f
      rw [this]; rfl
    have h2 : ∀ k, impl_CircleGraph.f k n own = some ([], false, false) := by
      intro k
      have : impl_in.f n 3 16 = some false := by
        unfold impl_in.f
        split
        · simp; omega
        · rfl
      unfold impl_CircleGraph.f
      rw [this]; rfl
    unfold laws_FnExactCircleGraph.f
    rw [h1, h2]
    simp only [Option.bind_some]
    have e : laws_eqGraph.f 60 [] false [] false = some true := by decide +kernel
    rw [e]
    simp only [Option.bind_some, if_true]
    rw [laws_FnExactCircleGraph.j0, h2]
    decide +kernel

end Go.Proofs.Ytollldmnleodaaa.Pure
