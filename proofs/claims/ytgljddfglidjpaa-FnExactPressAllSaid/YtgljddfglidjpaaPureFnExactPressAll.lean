/- PressAll of the program and of the reference agree, for every graph and two numbers. -/
import Derived.Test.YtgljddfglidjpaaLemFnExactPressAll
namespace Go.Proofs.Ytgljddfglidjpaa.Pure
open Go.RowKit Go.Proofs.Ytgljddfglidjpaa.PFnExactPressAll Go.Proofs.YtgljddfglidjpaaW.PrintWords Go.Proofs.YtgljddfglidjpaaW.PrintLast Go.Proofs.Ytgljddfglidjpaa.Bit Go.Proofs.Ytgljddfglidjpaa.Gra Go.Proofs.Ytgljddfglidjpaa.LemFnExactPressAll

theorem both (l : List Int) (own : Bool) (a b : Int) (k : Nat) (hk : l.length + 250 < k) : ∃ r, spec_PressAll.f k l own a b = some r ∧ impl_PressAll.f k l own a b = some r := by
  have hp := pow63 (y := 16) (by omega)
  unfold spec_PressAll.f impl_PressAll.f
  rw [grSet_f, grSet_f, isSet_two]
  simp only [bs]
  cases h : goodB l with
  | false => exact ⟨(0, false), by rw [Bool.false_and, if_neg (by decide)], by rw [Bool.false_and, if_neg (by decide)]⟩
  | true =>
    obtain ⟨m, rfl, hg⟩ := good_zs h
    simp only [Bool.true_and]
    by_cases ha : 0 ≤ a ∧ a ≤ ((2 ^ (zs m).length - 1 : Nat) : Int)
    · by_cases hr : 0 ≤ b ∧ b ≤ ((2 ^ (zs m).length - 1 : Nat) : Int)
      · rw [decide_eq_true ha, decide_eq_true hr]
        obtain ⟨x, rfl⟩ := Int.eq_ofNat_of_zero_le hr.1
        rw [zs_length] at ha hr hk
        have h3 := pow16 hg
        rw [if_pos rfl, if_pos rfl, if_pos (by rfl), grEff_f m hg own x (by omega) k (by omega), eff_f m hg own x (by omega) k (by omega)]
        simp only [bs]
        exact ⟨_, rfl, rfl⟩
      · rw [decide_eq_true ha, decide_eq_false hr]
        exact ⟨(0, false), by rw [if_pos rfl, if_neg (by decide)], if_neg (by decide)⟩
    · rw [decide_eq_false ha, Bool.false_and]
      exact ⟨(0, false), if_neg (by decide), if_neg (by decide)⟩
theorem FnExactPressAll (l : List Int) (own : Bool) (a b : Int) (hl : l.length ≤ maxLen) (_ : ∀ x ∈ l, (Lit.int .i64 x).wf = true) (_ : (Lit.int .i64 a).wf = true) (_ : (Lit.int .i64 b).wf = true) : ∃ k, laws_FnExactPressAll.f k l own a b = some true := by
  refine ⟨l.length + 300, ?_⟩
  unfold laws_FnExactPressAll.f
  rw [szGraph_f l own 1048576 hl (by decide) (by decide)]
  simp only [bs]
  by_cases h : (1048576 : Int) < (l.length : Int)
  · rw [if_pos h, if_pos (by decide)]
  · have hl2 : l.length < 2 ^ 40 := by omega
    obtain ⟨r, h1, h2⟩ := both l own a b (l.length + 300) (by omega)
    rw [if_neg h, if_neg (by omega), toGraph_f l own hl2 _ (by omega)]
    simp only [bs]
    rw [h1]
    simp only [bs]
    rw [h2]
    simp only [bs]
    rw [if_pos trivial]
    simp only [bne_self_eq_false]
    rw [laws_FnExactPressAll.j0, if_neg (by decide), toGraph_f l own hl2 _ (by omega)]
    simp only [bs]
    rw [eqGraph_self l own (by omega) _ (by omega)]
    simp only [bs, if_true]

end Go.Proofs.Ytgljddfglidjpaa.Pure
