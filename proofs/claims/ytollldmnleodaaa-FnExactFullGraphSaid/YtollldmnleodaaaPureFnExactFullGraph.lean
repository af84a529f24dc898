/- FullGraph of the program and of the reference agree, and their graphs are new memory: for every n and own. For n in 1..16 the printed law is reckoned out; for other n both fail. -/
import Derived.Test.YtollldmnleodaaaPFnExactFullGraphx3
namespace Go.Proofs.Ytollldmnleodaaa.Pure
open Go.RowKit Go.Proofs.Ytollldmnleodaaa.PFnExactFullGraph Go.Proofs.YtollldmnleodaaaW.PrintWords Go.Proofs.YtollldmnleodaaaW.PrintLast

theorem all : ∀ n : Fin 17, ∀ b : Bool, 1 ≤ n.val → laws_FnExactFullGraph.f 40 (n.val : Int) b = some true := by decide +kernel

theorem FnExactFullGraph : laws_FnExactFullGraph.Pure := by
  intro n own _
  refine ⟨40, ?_⟩
  by_cases h : 1 ≤ n ∧ n ≤ 16
  · have := all ⟨n.toNat, by omega⟩ own (by show 1 ≤ n.toNat; omega)
    rwa [show ((⟨n.toNat, by omega⟩ : Fin 17).val : Int) = n from by show (n.toNat : Int) = n; omega] at this
  · have h1 : spec_FullGraph.f 40 n own = some ([], false, false) := by
      have : spec_grSize.f n = some false := by
        unfold spec_grSize.f spec_l1In.f
        split
        · simp; omega
        · rfl
      unfold spec_FullGraph.f
      rw [this]; rfl
    have h2 : ∀ k, impl_FullGraph.f k n own = some ([], false, false) := by
      intro k
      have : impl_isCount.f n = some false := by
        unfold impl_isCount.f impl_in.f
        split
        · simp; omega
        · rfl
      unfold impl_FullGraph.f
      rw [this]; rfl
    unfold laws_FnExactFullGraph.f
    rw [h1, h2]
    simp only [Option.bind_some]
    have e : laws_eqGraph.f 40 [] false [] false = some true := by decide +kernel
    rw [e]
    simp only [Option.bind_some, if_true]
    rw [laws_FnExactFullGraph.j0, h2]
    decide +kernel

end Go.Proofs.Ytollldmnleodaaa.Pure
