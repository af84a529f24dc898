/- EffectOf of the program and of the reference agree, for every graph and number. -/
import Derived.Test.YtgljddfglidjpaaLemFnExactEffectOf
namespace Go.Proofs.Ytgljddfglidjpaa.Pure
open Go.RowKit Go.Proofs.Ytgljddfglidjpaa.PFnExactEffectOf Go.Proofs.YtgljddfglidjpaaW.PrintWords Go.Proofs.YtgljddfglidjpaaW.PrintLast Go.Proofs.Ytgljddfglidjpaa.Bit Go.Proofs.Ytgljddfglidjpaa.Gra Go.Proofs.Ytgljddfglidjpaa.LemFnExactEffectOf

theorem both (l : List Int) (own : Bool) (a : Int) (k : Nat) (hk : l.length + 250 < k) : ∃ r, spec_EffectOf.f k l own a = some r ∧ impl_EffectOf.f k l own a = some r := by
  have hp := pow63 (y := 16) (by omega)
  unfold spec_EffectOf.f impl_EffectOf.f impl_PressAll.f
  rw [grSet_f, isSet_two]
  simp only [bs]
  cases h : goodB l with
  | false => exact ⟨(0, false), by rw [Bool.false_and, if_neg (by decide)], by rw [Bool.false_and, if_neg (by decide)]; simp only [bs]⟩
  | true =>
    obtain ⟨m, rfl, hg⟩ := good_zs h
    rw [Bool.true_and, Bool.true_and, decide_eq_true (⟨Int.le_refl 0, Int.natCast_nonneg _⟩ : (0 : Int) ≤ 0 ∧ (0 : Int) ≤ ((2 ^ (zs m).length - 1 : Nat) : Int)), Bool.true_and]
    by_cases hr : 0 ≤ a ∧ a ≤ ((2 ^ (zs m).length - 1 : Nat) : Int)
    · obtain ⟨x, rfl⟩ := Int.eq_ofNat_of_zero_le hr.1
      rw [zs_length] at hr hk ⊢
      have h3 := pow16 hg
      have h4 := eff_lt hg own x
      rw [decide_eq_true hr, if_pos rfl, if_pos rfl, grEff_f m hg own x (by omega) k (by omega), eff_f m hg own x (by omega) k (by omega)]
      simp only [bs]
      rw [show (0 : Int) = ((0 : Nat) : Int) from rfl, xorn 0 _ (by decide) (by omega), Nat.zero_xor]
      exact ⟨_, rfl, rfl⟩
    · rw [decide_eq_false hr]
      exact ⟨(0, false), if_neg (by decide), by rw [if_neg (by decide)]; simp only [bs]⟩
theorem FnExactEffectOf (l : List Int) (own : Bool) (a : Int) (hl : l.length ≤ maxLen) (_ : ∀ x ∈ l, (Lit.int .i64 x).wf = true) (_ : (Lit.int .i64 a).wf = true) : ∃ k, laws_FnExactEffectOf.f k l own a = some true := by
  refine ⟨l.length + 300, ?_⟩
  unfold laws_FnExactEffectOf.f
  rw [szGraph_f l own 1048576 hl (by decide) (by decide)]
  simp only [bs]
  by_cases h : (1048576 : Int) < (l.length : Int)
  · rw [if_pos h, if_pos (by decide)]
  · have hl2 : l.length < 2 ^ 40 := by omega
    obtain ⟨r, h1, h2⟩ := both l own a (l.length + 300) (by omega)
    rw [if_neg h, if_neg (by omega), toGraph_f l own hl2 _ (by omega)]
    simp only [bs]
    rw [h1]
    simp only [bs]
    rw [h2]
    simp only [bs]
    rw [if_pos trivial]
    simp only [bne_self_eq_false]
    rw [laws_FnExactEffectOf.j0, if_neg (by decide), toGraph_f l own hl2 _ (by omega)]
    simp only [bs]
    rw [eqGraph_self l own (by omega) _ (by omega)]
    simp only [bs, if_true]

end Go.Proofs.Ytgljddfglidjpaa.Pure
