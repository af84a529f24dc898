/- PathGraph of the program and of the reference agree, and their graphs are new memory: for every n and own. For n in 1..16 the printed law is reckoned out; for other n both fail. -/
import Derived.Test.YtollldmnleodaaaPFnExactPathGraphx3
namespace Go.Proofs.Ytollldmnleodaaa.Pure
open Go.RowKit Go.Proofs.Ytollldmnleodaaa.PFnExactPathGraph Go.Proofs.YtollldmnleodaaaW.PrintWords Go.Proofs.YtollldmnleodaaaW.PrintLast

theorem all : ∀ n : Fin 17, ∀ b : Bool, 1 ≤ n.val → laws_FnExactPathGraph.f 60 (n.val : Int) b = some true := by decide +kernel

theorem FnExactPathGraph : laws_FnExactPathGraph.Pure := by
  intro n own _
  refine ⟨60, ?_⟩
  by_cases h : 1 ≤ n ∧ n ≤ 16
  · have := all ⟨n.toNat, by omega⟩ own (by show 1 ≤ n.toNat; omega)
    rwa [show ((⟨n.toNat, by omega⟩ : Fin 17).val : Int) = n from by show (n.toNat : Int) = n; omega] at this
  · have h1 : ∀ k, spec_PathGraph.f k n own = some ([], false, false) := by
      intro k
      have : spec_grSize.f n = some false := by
        unfold spec_grSize.f spec_l1In.f
        split
        · simp; omega
        · rfl
      unfold spec_PathGraph.f
      rw [this]; rfl
    have h2 : ∀ k, impl_PathGraph.f k n own = some ([], false, false) := by
      intro k
      have : impl_isCount.f n = some false := by
        unfold impl_isCount.f impl_in.f
        split
        · simp; omega
        · rfl
      unfold impl_PathGraph.f
      rw [this]; rfl
    unfold laws_FnExactPathGraph.f
    rw [h1, h2]
    simp only [Option.bind_some]
    have e : laws_eqGraph.f 60 [] false [] false = some true := by decide +kernel
    rw [e]
    simp only [Option.bind_some, if_true]
    rw [laws_FnExactPathGraph.j0, h2]
    decide +kernel

end Go.Proofs.Ytollldmnleodaaa.Pure
