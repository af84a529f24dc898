/- GridGraph of the program and of the reference agree, and their graphs are new memory: for all rows, columns and own. Where a grid with sides of at least 1 has at most 16 buttons the printed law is reckoned out; elsewhere both fail. -/
import Derived.Test.YtollldmnleodaaaPFnExactGridGraphx4
namespace Go.Proofs.Ytollldmnleodaaa.Pure
open Go.RowKit Go.Proofs.Ytollldmnleodaaa.PFnExactGridGraph Go.Proofs.YtollldmnleodaaaW.PrintWords Go.Proofs.YtollldmnleodaaaW.PrintLast

theorem all : ∀ r c : Fin 17, ∀ b : Bool, 1 ≤ r.val → 1 ≤ c.val → r.val * c.val ≤ 16 → laws_FnExactGridGraph.f 120 (r.val : Int) (c.val : Int) b = some true := by decide +kernel

theorem prod {r c : Int} (hr : 1 ≤ r ∧ r ≤ 16) (hc : 1 ≤ c ∧ c ≤ 16) : Go.RowKit.wrap64 (r * c) = r * c := by
  have h1 : 0 ≤ r * c := Int.mul_nonneg (by omega) (by omega)
  have h2 : r * c ≤ 16 * 16 := Int.mul_le_mul hr.2 hc.2 (by omega) (by omega)
  unfold Go.RowKit.wrap64
  omega

theorem sides {r c : Int} (h : ¬ ((1 ≤ r ∧ r ≤ 16) ∧ (1 ≤ c ∧ c ≤ 16) ∧ r * c ≤ 16)) : spec_grSides.f r c 1 = some false ∧ impl_isGrid.f r c 1 = some false := by
  unfold spec_grSides.f spec_l1In.f impl_isGrid.f impl_in.f
  simp only [ge_iff_le]
  by_cases h1 : 1 ≤ r ∧ r ≤ 16
  · rw [if_pos h1.1, decide_eq_true h1.2]
    simp only [Option.bind_some, if_true]
    by_cases h2 : 1 ≤ c ∧ c ≤ 16
    · rw [if_pos h2.1, decide_eq_true h2.2, prod h1 h2]
      have h3 : ¬ r * c ≤ 16 := fun h3 => h ⟨h1, h2, h3⟩
      rw [decide_eq_false h3]
      exact ⟨rfl, rfl⟩
    · by_cases h3 : 1 ≤ c
      · have h4 : ¬ c ≤ 16 := by omega
        rw [if_pos h3, decide_eq_false h4]; exact ⟨rfl, rfl⟩
      · rw [if_neg h3]; exact ⟨rfl, rfl⟩
  · by_cases h3 : 1 ≤ r
    · have h4 : ¬ r ≤ 16 := by omega
      rw [if_pos h3, decide_eq_false h4]; exact ⟨rfl, rfl⟩
    · rw [if_neg h3]; exact ⟨rfl, rfl⟩

theorem FnExactGridGraph : laws_FnExactGridGraph.Pure := by
  intro r c own _ _
  refine ⟨120, ?_⟩
  by_cases h : (1 ≤ r ∧ r ≤ 16) ∧ (1 ≤ c ∧ c ≤ 16) ∧ r * c ≤ 16
  · obtain ⟨h1, h2, h3⟩ := h
    have h4 : r.toNat * c.toNat ≤ 16 := by
      have : ((r.toNat * c.toNat : Nat) : Int) = r * c := by rw [Int.natCast_mul, Int.toNat_of_nonneg (by omega), Int.toNat_of_nonneg (by omega)]
      omega
    have := all ⟨r.toNat, by omega⟩ ⟨c.toNat, by omega⟩ own (by show 1 ≤ r.toNat; omega) (by show 1 ≤ c.toNat; omega) h4
    rwa [show ((⟨r.toNat, by omega⟩ : Fin 17).val : Int) = r from by show (r.toNat : Int) = r; omega, show ((⟨c.toNat, by omega⟩ : Fin 17).val : Int) = c from by show (c.toNat : Int) = c; omega] at this
  · obtain ⟨g1, g2⟩ := sides h
    have h1 : ∀ k, spec_GridGraph.f k r c own = some ([], false, false) := by
      intro k
      unfold spec_GridGraph.f
      rw [g1]; rfl
    have h2 : ∀ k, impl_GridGraph.f k r c own = some ([], false, false) := by
      intro k
      unfold impl_GridGraph.f
      rw [g2]; rfl
    unfold laws_FnExactGridGraph.f
    rw [h1, h2]
    simp only [Option.bind_some]
    have e : laws_eqGraph.f 120 [] false [] false = some true := by decide +kernel
    rw [e]
    simp only [Option.bind_some, if_true]
    rw [laws_FnExactGridGraph.j0, h2]
    decide +kernel

end Go.Proofs.Ytollldmnleodaaa.Pure
