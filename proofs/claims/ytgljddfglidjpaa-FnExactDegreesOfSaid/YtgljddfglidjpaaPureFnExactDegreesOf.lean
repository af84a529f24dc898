/- DegreesOf of the program and of the reference agree, and their lists are new memory: for every graph. -/
import Derived.Test.YtgljddfglidjpaaLemFnExactDegreesOf
namespace Go.Proofs.Ytgljddfglidjpaa.Pure
open Go.RowKit Go.Proofs.Ytgljddfglidjpaa.PFnExactDegreesOf Go.Proofs.YtgljddfglidjpaaW.PrintWords Go.Proofs.YtgljddfglidjpaaW.PrintLast Go.Proofs.Ytgljddfglidjpaa.Bit Go.Proofs.Ytgljddfglidjpaa.Gra Go.Proofs.Ytgljddfglidjpaa.Pop Go.Proofs.Ytgljddfglidjpaa.LemFnExactDegreesOf

theorem both (l : List Int) (own : Bool) : ∃ r : List Int × Bool, r.1.length ≤ 16 ∧ ∀ k, l.length + 250 < k → spec_DegreesOf.f k l own = some r ∧ impl_DegreesOf.f k l own = some r := by
  unfold spec_DegreesOf.f impl_DegreesOf.f spec_grGood.f impl_isGraph.f
  simp only [bs]
  cases h : goodB l with
  | false => exact ⟨([], false), by decide, fun k _ => ⟨if_neg (by decide), if_neg (by decide)⟩⟩
  | true =>
    obtain ⟨m, rfl, hg⟩ := good_zs h
    refine ⟨(zs (m.map (pop 16)), true), ?_, fun k hk => ?_⟩
    · show (zs (m.map (pop 16))).length ≤ 16
      rw [zs_length, List.length_map]; exact hg.le
    · rw [zs_length] at hk ⊢
      rw [if_pos rfl, if_pos rfl]
      exact ⟨spec_degs_l m hg m.length 0 k (by omega) (by omega), impl_degs_l m hg m.length 0 k (by omega) (by omega)⟩
theorem FnExactDegreesOf (l : List Int) (own : Bool) (hl : l.length ≤ maxLen) (_ : ∀ x ∈ l, (Lit.int .i64 x).wf = true) : ∃ k, laws_FnExactDegreesOf.f k l own = some true := by
  refine ⟨l.length + 300, ?_⟩
  unfold laws_FnExactDegreesOf.f
  rw [szGraph_f l own 1048576 hl (by decide) (by decide)]
  simp only [bs]
  by_cases h : (1048576 : Int) < (l.length : Int)
  · rw [if_pos h, if_pos (by decide)]
  · have hl2 : l.length < 2 ^ 40 := by omega
    obtain ⟨r', h0, hb⟩ := both l own
    have h1 := (hb (l.length + 300) (by omega)).1
    have h2 := (hb (l.length + 300) (by omega)).2
    have h3 := (hb (l.length + 298) (by omega)).2
    rw [if_neg h, if_neg (by omega), toGraph_f l own hl2 _ (by omega)]
    simp only [bs]
    rw [h1]
    simp only [bs]
    rw [h2]
    simp only [bs]
    rw [eqIntS_self r'.1 (by omega) _ (by omega)]
    simp only [bs, if_true, bne_self_eq_false]
    rw [laws_FnExactDegreesOf.j0, if_neg (by decide), toGraph_f l own hl2 _ (by omega)]
    simp only [bs]
    rw [eqGraph_self l own (by omega) _ (by omega)]
    simp only [bs, if_true]
    rw [markGraph_any l own (by omega) _ (by omega)]
    simp only [bs]
    rw [if_neg (by omega), eqIntS_self r'.1 (by omega) _ (by omega)]
    simp only [bs, if_true, bne_self_eq_false]
    rw [laws_FnExactDegreesOf.j1, if_neg (by decide), mark_any r'.1 (by omega) _ (by omega)]
    simp only [bs]
    rw [held_any r'.1.length (by omega) _ (by omega)]
    simp only [bs]
    rw [if_neg (by omega), if_pos trivial, toGraph_f l own hl2 _ (by omega)]
    simp only [bs]
    rw [h3]
    simp only [bs]
    rw [eqIntS_self r'.1 (by omega) _ (by omega)]
    simp only [bs, if_true, bne_self_eq_false]
    rw [laws_FnExactDegreesOf.j2, if_neg (by decide), held_any r'.1.length (by omega) _ (by omega)]
    simp only [bs]
    rw [if_neg (by omega), if_pos trivial]

end Go.Proofs.Ytgljddfglidjpaa.Pure
