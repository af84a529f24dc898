/- FibonacciPoly of the program and of the reference agree: for every n. For n in 0..41 the printed law is reckoned out; for other n both fail. -/
import Derived.Test.YtadjapdaepkfhaaPFnExactFibonacciPolyx
namespace Go.Proofs.Ytadjapdaepkfhaa.Pure
open Go.RowKit Go.Proofs.Ytadjapdaepkfhaa.PFnExactFibonacciPoly Go.Proofs.YtadjapdaepkfhaaW.PrintWords Go.Proofs.YtadjapdaepkfhaaW.PrintLast

theorem all : ∀ n : Fin 42, laws_FnExactFibonacciPoly.f 60 (n.val : Int) = some true := by decide +kernel
theorem FnExactFibonacciPoly : laws_FnExactFibonacciPoly.Pure := by
  intro n _
  refine ⟨60, ?_⟩
  by_cases h : 0 ≤ n ∧ n ≤ 41
  · have := all ⟨n.toNat, by omega⟩
    rwa [show ((⟨n.toNat, by omega⟩ : Fin 42).val : Int) = n from by show (n.toNat : Int) = n; omega] at this
  · have h1 : spec_FibonacciPoly.f 60 n = some (0, false) := by
      have : spec_l1In.f n 0 41 = some false := by
        unfold spec_l1In.f
        split
        · simp; omega
        · rfl
      unfold spec_FibonacciPoly.f
      rw [this]; rfl
    have h2 : impl_FibonacciPoly.f 60 n = some (0, false) := by
      have : impl_in.f n 0 41 = some false := by
        unfold impl_in.f
        split
        · simp; omega
        · rfl
      unfold impl_FibonacciPoly.f
      rw [this]; rfl
    unfold laws_FnExactFibonacciPoly.f
    rw [h1, h2]; rfl

end Go.Proofs.Ytadjapdaepkfhaa.Pure
