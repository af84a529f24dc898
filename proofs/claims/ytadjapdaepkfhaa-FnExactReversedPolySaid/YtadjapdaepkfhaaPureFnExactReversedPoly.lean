/- ReversedPoly of the program and of the reference agree: for every p. -/
import Derived.Test.YtadjapdaepkfhaaLemFnExactReversedPoly
namespace Go.Proofs.Ytadjapdaepkfhaa.Pure
open Go.RowKit Go.Proofs.Ytadjapdaepkfhaa.PFnExactReversedPoly Go.Proofs.YtadjapdaepkfhaaW.PrintWords Go.Proofs.YtadjapdaepkfhaaW.PrintLast Go.Proofs.Ytadjapdaepkfhaa.Bit Go.Proofs.Ytadjapdaepkfhaa.Row Go.Proofs.Ytadjapdaepkfhaa.Lin Go.Proofs.Ytadjapdaepkfhaa.LemFnExactReversedPoly Go.Proofs.Ytadjapdaepkfhaa.Gra Go.Proofs.Ytadjapdaepkfhaa.Pol

theorem law_of {p x : Int} {b : Bool} {k : Nat} (hs : spec_ReversedPoly.f k p = some (x, b)) (hi : impl_ReversedPoly.f k p = some (x, b)) : laws_FnExactReversedPoly.f k p = some true := by
  unfold laws_FnExactReversedPoly.f
  rw [hs, hi]
  simp only [bs, if_true, bne_self_eq_false]
  rfl
theorem yes (p : Nat) (h : 0 ≤ (p : Int) ∧ (p : Int) ≤ 2199023255551) : laws_FnExactReversedPoly.f 120 (p : Int) = some true := by
        have hp : p < 2 ^ 41 := by omega
        rcases Nat.eq_zero_or_pos p with h0 | h0
        · subst h0
          refine law_of (x := 0) (b := true) ?_ ?_
          · unfold spec_ReversedPoly.f
            rw [poGood_f, decide_eq_true h]
            simp only [bs, if_true]
            rw [poDegree_f 0 (by decide) 120 (by decide)]
            decide +kernel
          · unfold impl_ReversedPoly.f
            rw [isPoly_one, decide_eq_true h]
            simp only [bs, if_true]
            rw [degree_f 0 (by decide)]
            decide +kernel
        · have hl := (Nat.log2_lt (n := p) (k := 41) (by omega)).2 (by omega)
          have ht : topI p = (p.log2 : Int) := by unfold topI; rw [if_neg (by omega)]
          refine law_of (x := ((revTo p p.log2 (p.log2 + 1) : Nat) : Int)) (b := true) ?_ ?_
          · unfold spec_ReversedPoly.f
            rw [poGood_f, decide_eq_true h]
            simp only [bs, if_true]
            rw [poDegree_f p (by omega) 120 (by decide), ht]
            simp only [bs]
            have := spec_rev_l p p.log2 (by omega) ht (by omega) (p.log2 + 1) 0 120 (by omega) (by omega)
            rwa [show ((p.log2 : Nat) : Int) - ((0 : Nat) : Int) = (p.log2 : Int) by omega] at this
          · unfold impl_ReversedPoly.f
            rw [isPoly_one, decide_eq_true h]
            simp only [bs, if_true]
            rw [degree_f p (by omega), ht]
            simp only [bs]
            rw [show ((p.log2 : Nat) : Int) + 1 = ((p.log2 + 1 : Nat) : Int) from rfl, wrapn _ (by omega)]
            exact impl_rev_l p p.log2 (by omega) (by omega) (p.log2 + 1) 0 120 (by omega) (by omega)
theorem FnExactReversedPoly : laws_FnExactReversedPoly.Pure := by
  intro p _
  refine ⟨120, ?_⟩
  by_cases h : 0 ≤ p ∧ p ≤ 2199023255551
  · obtain ⟨p, rfl⟩ := Int.eq_ofNat_of_zero_le h.1
    exact yes p h
  · refine law_of (x := 0) (b := false) ?_ ?_
    · unfold spec_ReversedPoly.f
      rw [poGood_f, decide_eq_false h]; rfl
    · unfold impl_ReversedPoly.f
      rw [isPoly_one, decide_eq_false h]; rfl

end Go.Proofs.Ytadjapdaepkfhaa.Pure
