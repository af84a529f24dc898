/- GraphText of the program and of the reference agree, for every graph. -/
import Derived.Test.YteabfdcobkgmmaaDoorLemFnExactGraphText
namespace Go.Proofs.YteabfdcobkgmmaaDoor.Pure
open Go.RowKit Go.Proofs.YteabfdcobkgmmaaDoor.PFnExactGraphText Go.Proofs.YteabfdcobkgmmaaDoorW.PrintWords Go.Proofs.YteabfdcobkgmmaaDoorW.PrintLast Go.Proofs.YteabfdcobkgmmaaDoor.Bit Go.Proofs.YteabfdcobkgmmaaDoor.Gra Go.Proofs.YteabfdcobkgmmaaDoor.LemFnExactGraphText

theorem both (l : List Int) (own : Bool) (k : Nat) (hk : 2000 ≤ k) : ∃ r rb, spec_GraphText.f k l own = some (r, rb) ∧ impl_GraphText.f k l own = some (r, rb) := by
  unfold spec_GraphText.f impl_GraphText.f spec_grGood.f impl_isGraph.f
  simp only [bs]
  cases h : goodB l with
  | false => exact ⟨_, _, by rw [if_neg (by decide)], by rw [if_neg (by decide)]⟩
  | true =>
    obtain ⟨m, rfl, hm⟩ := (goodB_isG l).1 h
    simp only [if_true]
    rw [sText m hm own k (by omega), iText m hm own k (by omega)]
    exact ⟨_, _, rfl, rfl⟩
theorem FnExactGraphText (l : List Int) (own : Bool) (hl : l.length ≤ maxLen) (_ : ∀ x ∈ l, (Lit.int .i64 x).wf = true) : ∃ k, laws_FnExactGraphText.f k l own = some true := by
  refine ⟨l.length + 3000, ?_⟩
  unfold laws_FnExactGraphText.f
  rw [szGraph_f l own 1048576 hl (by decide) (by decide)]
  simp only [bs]
  by_cases h : (1048576 : Int) < (l.length : Int)
  · rw [if_pos h, if_pos (by decide)]
  · have hl2 : l.length < 2 ^ 40 := by omega
    obtain ⟨r, rb, h1, h2⟩ := both l own (l.length + 3000) (by omega)
    rw [if_neg h, if_neg (by omega), toGraph_f l own hl2 _ (by omega)]
    simp only [bs]
    rw [h1]
    simp only [bs]
    rw [h2]
    simp only [bs, if_true, bne_self_eq_false]
    rw [laws_FnExactGraphText.j0, if_neg (by decide), toGraph_f l own hl2 _ (by omega)]
    simp only [bs]
    rw [eqGraph_self l own (by omega) _ (by omega)]
    simp only [bs, if_true]
end Go.Proofs.YteabfdcobkgmmaaDoor.Pure
