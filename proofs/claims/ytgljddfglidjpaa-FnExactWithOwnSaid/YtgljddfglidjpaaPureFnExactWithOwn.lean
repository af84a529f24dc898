/- WithOwn of the program and of the reference agree, and their lists are new memory: for every graph. -/
import Derived.Test.YtgljddfglidjpaaLemFnExactWithOwn
import Derived.Test.YtgljddfglidjpaaGra2
namespace Go.Proofs.Ytgljddfglidjpaa.Pure
open Go.RowKit Go.Proofs.Ytgljddfglidjpaa.PFnExactWithOwn Go.Proofs.YtgljddfglidjpaaW.PrintWords Go.Proofs.YtgljddfglidjpaaW.PrintLast Go.Proofs.Ytgljddfglidjpaa.Bit Go.Proofs.Ytgljddfglidjpaa.Gra Go.Proofs.Ytgljddfglidjpaa.LemFnExactWithOwn

theorem both (l : List Int) (own a : Bool) : ∃ r : List Int × Bool × Bool, r.1.length ≤ 16 ∧ spec_WithOwn.f l own a = some r ∧ impl_WithOwn.f l own a = some r := by
  unfold spec_WithOwn.f impl_WithOwn.f spec_grGood.f impl_isGraph.f
  simp only [bs]
  cases h : goodB l with
  | false => exact ⟨([], false, false), by decide, if_neg (by decide), if_neg (by decide)⟩
  | true =>
    have h1 := ((goodB_iff l).1 h).1
    refine ⟨(l, a, true), h1.2, ?_, ?_⟩
    · unfold spec_grOwn.f spec_l1Own.f
      rw [if_pos rfl]
      simp only [bs, List.nil_append, List.length_nil]
      rw [if_pos (by omega)]
      simp only [bs]
    · unfold slices_Clone_int_int.f
      rw [if_pos rfl, if_pos (by omega)]
      simp only [bs]
theorem FnExactWithOwn (l : List Int) (own : Bool) (a : Bool) (hl : l.length ≤ maxLen) (_ : ∀ x ∈ l, (Lit.int .i64 x).wf = true) : ∃ k, laws_FnExactWithOwn.f k l own a = some true := by
  refine ⟨l.length + 300, ?_⟩
  unfold laws_FnExactWithOwn.f
  rw [szGraph_f l own 1048576 hl (by decide) (by decide)]
  simp only [bs]
  by_cases h : (1048576 : Int) < (l.length : Int)
  · rw [if_pos h, if_pos (by decide)]
  · have hl2 : l.length < 2 ^ 40 := by omega
    obtain ⟨⟨r1, r2, r3⟩, h0, h1, h2⟩ := both l own a
    replace h0 : r1.length ≤ 16 := h0
    rw [if_neg h, if_neg (by omega), toGraph_f l own hl2 _ (by omega)]
    simp only [bs]
    rw [h1]
    simp only [bs]
    rw [h2]
    simp only [bs]
    rw [eqGraph_self r1 r2 (by omega) _ (by omega)]
    simp only [bs, if_true, bne_self_eq_false]
    rw [laws_FnExactWithOwn.j0, if_neg (by decide), toGraph_f l own hl2 _ (by omega)]
    simp only [bs]
    rw [eqGraph_self l own (by omega) _ (by omega)]
    simp only [bs, if_true]
    rw [markGraph_any l own (by omega) _ (by omega)]
    simp only [bs]
    rw [if_neg (by omega), eqGraph_self r1 r2 (by omega) _ (by omega)]
    simp only [bs, if_true, bne_self_eq_false]
    rw [laws_FnExactWithOwn.j1, if_neg (by decide), markGraph_any r1 r2 (by omega) _ (by omega)]
    simp only [bs]
    rw [heldGraph_any r1.length r2 (by omega) _ (by omega)]
    simp only [bs]
    rw [if_neg (by omega), if_pos trivial, toGraph_f l own hl2 _ (by omega)]
    simp only [bs]
    rw [h2]
    simp only [bs]
    rw [eqGraph_self r1 r2 (by omega) _ (by omega)]
    simp only [bs, if_true, bne_self_eq_false]
    rw [laws_FnExactWithOwn.j2, if_neg (by decide), heldGraph_any r1.length r2 (by omega) _ (by omega)]
    simp only [bs]
    rw [if_neg (by omega), if_pos trivial]

end Go.Proofs.Ytgljddfglidjpaa.Pure
