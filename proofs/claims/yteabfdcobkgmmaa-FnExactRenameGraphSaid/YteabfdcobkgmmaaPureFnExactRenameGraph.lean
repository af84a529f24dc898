/- The law of RenameGraph, for all graphs' values and all names: both parts answer alike, what comes in stays as it is, and memory is shared with nobody. No conditions. -/
import Derived.Test.YteabfdcobkgmmaaLemFnExactRenameGraph
namespace Go.Proofs.Yteabfdcobkgmmaa.Pure
open Go.RowKit Go.Proofs.Yteabfdcobkgmmaa.PFnExactRenameGraph Go.Proofs.YteabfdcobkgmmaaW.PrintWords Go.Proofs.YteabfdcobkgmmaaW.PrintLast Go.Proofs.Yteabfdcobkgmmaa.Bit Go.Proofs.Yteabfdcobkgmmaa.Gra Go.Proofs.Yteabfdcobkgmmaa.LemFnExactRenameGraph

theorem FnExactRenameGraph (l : List Int) (own : Bool) (ns : List Int) (hl : l.length ≤ maxLen) (_ : ∀ x ∈ l, (Lit.int .i64 x).wf = true) (_ : ns.length ≤ maxLen) (_ : ∀ x ∈ ns, (Lit.int .i64 x).wf = true) : ∃ k, laws_FnExactRenameGraph.f k l own ns = some true := by
  refine ⟨6000003, ?_⟩
  unfold laws_FnExactRenameGraph.f
  by_cases hns : (ns.length : Int) > 1048576
  · rw [if_pos hns]
  · rw [if_neg hns, szGraph_f l own 1048576 hl (by decide) (by decide)]
    simp only [bs]
    by_cases h : (1048576 : Int) < (l.length : Int)
    · rw [if_pos h, if_pos (by decide)]
    · have hl2 : l.length < 2 ^ 40 := by omega
      have hn2 : ns.length < 2 ^ 40 := by omega
      obtain ⟨R, ro, rb, hS, hI, hR⟩ := ren_both l own ns (by omega) 6000003 (by decide)
      obtain ⟨R', ro', rb', hS', hI', _⟩ := ren_both l own ns (by omega) 6000001 (by decide)
      have hRR : R' = R ∧ ro' = ro ∧ rb' = rb := by
        have h1 := (impl_RenameGraph.mono l own ns 6000001).trans (impl_RenameGraph.mono l own ns 6000002) _ hI'
        rw [hI, Option.some.injEq, Prod.mk.injEq, Prod.mk.injEq] at h1
        exact ⟨h1.1.symm, h1.2.1.symm, h1.2.2.symm⟩
      obtain ⟨rfl, rfl, rfl⟩ := hRR
      rw [if_neg h, if_neg (by omega), toGraph_f l own hl2 _ (by omega)]
      simp only [bs]
      rw [toInt_f ns hn2 _ (by omega)]
      simp only [bs]
      rw [hS]
      simp only [bs]
      rw [hI]
      simp only [bs]
      rw [eqGraph_self _ _ (by omega) _ (by omega)]
      simp only [bs, if_true, bne_self_eq_false]
      rw [laws_FnExactRenameGraph.j0, if_neg (by decide), toGraph_f l own hl2 _ (by omega)]
      simp only [bs]
      rw [eqGraph_self l own (by omega) _ (by omega)]
      simp only [bs, if_true]
      rw [toInt_f ns hn2 _ (by omega)]
      simp only [bs]
      rw [eqIntS_self ns (by omega) _ (by omega)]
      simp only [bs, if_true]
      rw [show (1 : Int) = ((1 : Nat) : Int) from rfl, markNG_f 1 l own (by omega) (by decide) _ (by omega)]
      simp only [bs]
      rw [markN_f (1 + l.length) ns (by omega) (by omega) _ (by omega)]
      simp only [bs]
      rw [if_neg (by omega), eqGraph_self _ _ (by omega) _ (by omega)]
      simp only [bs, if_true, bne_self_eq_false]
      rw [laws_FnExactRenameGraph.j1, if_neg (by decide), show (1 : Int) = ((1 : Nat) : Int) from rfl, markNG_f 1 _ _ (by omega) (by decide) _ (by omega)]
      simp only [bs]
      rw [heldNG_f 1 _ _ (by omega) (by decide) _ (by omega)]
      simp only [bs]
      rw [if_neg (by omega), if_true, toGraph_f l own hl2 _ (by omega)]
      simp only [bs]
      rw [toInt_f ns hn2 _ (by omega)]
      simp only [bs]
      rw [hI']
      simp only [bs]
      rw [eqGraph_self _ _ (by omega) _ (by omega)]
      simp only [bs, if_true, bne_self_eq_false]
      rw [laws_FnExactRenameGraph.j2, if_neg (by decide), show (1 : Int) = ((1 : Nat) : Int) from rfl, heldNG_f 1 _ _ (by omega) (by decide) _ (by omega)]
      simp only [bs]
      rw [if_neg (by omega), if_true]
end Go.Proofs.Yteabfdcobkgmmaa.Pure
