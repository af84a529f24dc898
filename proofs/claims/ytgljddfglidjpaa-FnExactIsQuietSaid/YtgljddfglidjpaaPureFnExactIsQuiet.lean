/- IsQuiet of the program and of the reference agree, for every graph and number. -/
import Derived.Test.YtgljddfglidjpaaLemFnExactIsQuiet
namespace Go.Proofs.Ytgljddfglidjpaa.Pure
open Go.RowKit Go.Proofs.Ytgljddfglidjpaa.PFnExactIsQuiet Go.Proofs.YtgljddfglidjpaaW.PrintWords Go.Proofs.YtgljddfglidjpaaW.PrintLast Go.Proofs.Ytgljddfglidjpaa.Bit Go.Proofs.Ytgljddfglidjpaa.Gra Go.Proofs.Ytgljddfglidjpaa.LemFnExactIsQuiet

theorem both (l : List Int) (own : Bool) (a : Int) (k : Nat) (hk : l.length + 250 < k) : ∃ r, spec_IsQuiet.f k l own a = some r ∧ impl_IsQuiet.f k l own a = some r := by
  have hp := pow63 (y := 16) (by omega)
  unfold spec_IsQuiet.f impl_IsQuiet.f
  rw [grSet_f, isSet_one]
  simp only [bs]
  cases h : goodB l with
  | false => exact ⟨(false, false), by rw [Bool.false_and, if_neg (by decide)], by rw [Bool.false_and, if_neg (by decide)]⟩
  | true =>
    obtain ⟨m, rfl, hg⟩ := good_zs h
    rw [Bool.true_and]
    by_cases hr : 0 ≤ a ∧ a ≤ ((2 ^ (zs m).length - 1 : Nat) : Int)
    · obtain ⟨x, rfl⟩ := Int.eq_ofNat_of_zero_le hr.1
      rw [zs_length] at hr hk ⊢
      have h3 := pow16 hg
      rw [decide_eq_true hr, if_pos rfl, if_pos rfl, grEff_f m hg own x (by omega) k (by omega), eff_f m hg own x (by omega) k (by omega)]
      simp only [bs]
      exact ⟨_, rfl, rfl⟩
    · rw [decide_eq_false hr]
      exact ⟨(false, false), if_neg (by decide), if_neg (by decide)⟩
theorem FnExactIsQuiet (l : List Int) (own : Bool) (a : Int) (hl : l.length ≤ maxLen) (_ : ∀ x ∈ l, (Lit.int .i64 x).wf = true) (_ : (Lit.int .i64 a).wf = true) : ∃ k, laws_FnExactIsQuiet.f k l own a = some true := by
  refine ⟨l.length + 300, ?_⟩
  unfold laws_FnExactIsQuiet.f
  rw [szGraph_f l own 1048576 hl (by decide) (by decide)]
  simp only [bs]
  by_cases h : (1048576 : Int) < (l.length : Int)
  · rw [if_pos h, if_pos (by decide)]
  · have hl2 : l.length < 2 ^ 40 := by omega
    obtain ⟨r, h1, h2⟩ := both l own a (l.length + 300) (by omega)
    rw [if_neg h, if_neg (by omega), toGraph_f l own hl2 _ (by omega)]
    simp only [bs]
    rw [h1]
    simp only [bs]
    rw [h2]
    simp only [bs]
    rw [if_neg (by rw [bne_self_eq_false]; decide)]
    simp only [bne_self_eq_false]
    rw [laws_FnExactIsQuiet.j0, if_neg (by decide), toGraph_f l own hl2 _ (by omega)]
    simp only [bs]
    rw [eqGraph_self l own (by omega) _ (by omega)]
    simp only [bs, if_true]

end Go.Proofs.Ytgljddfglidjpaa.Pure
