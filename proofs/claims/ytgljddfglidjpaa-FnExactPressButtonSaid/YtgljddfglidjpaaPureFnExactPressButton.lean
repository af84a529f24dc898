/- PressButton of the program and of the reference agree, for every graph and two numbers. -/
import Derived.Test.YtgljddfglidjpaaLemFnExactPressButton
import Derived.Test.YtgljddfglidjpaaGra2
namespace Go.Proofs.Ytgljddfglidjpaa.Pure
open Go.RowKit Go.Proofs.Ytgljddfglidjpaa.PFnExactPressButton Go.Proofs.YtgljddfglidjpaaW.PrintWords Go.Proofs.YtgljddfglidjpaaW.PrintLast Go.Proofs.Ytgljddfglidjpaa.Bit Go.Proofs.Ytgljddfglidjpaa.Gra Go.Proofs.Ytgljddfglidjpaa.LemFnExactPressButton

theorem both (l : List Int) (own : Bool) (a b : Int) (k : Nat) (hk : l.length + 250 < k) : ∃ r, spec_PressButton.f l own a b = some r ∧ impl_PressButton.f k l own a b = some r := by
  have hp := pow63 (y := 16) (by omega)
  obtain ⟨k, rfl⟩ : ∃ m, k = m + 1 := ⟨k - 1, by omega⟩
  unfold spec_PressButton.f impl_PressButton.f impl_PressWord.f
  rw [grSet_f, grButton_f, isSet_one, hasButton_all]
  simp only [bs, List.mem_singleton, forall_eq]
  cases h : goodB l with
  | false => exact ⟨(0, false), by rw [Bool.false_and, if_neg (by decide)], by rw [Bool.false_and, if_neg (by decide), impl_PressWord.j0, if_pos rfl]; simp only [bs]⟩
  | true =>
    obtain ⟨m, rfl, hg⟩ := good_zs h
    simp only [Bool.true_and]
    by_cases ha : 0 ≤ a ∧ a ≤ ((2 ^ (zs m).length - 1 : Nat) : Int)
    · by_cases hr : 0 ≤ b ∧ b ≤ ((zs m).length : Int) - 1
      · rw [decide_eq_true ha, decide_eq_true hr]
        obtain ⟨i, rfl⟩ := Int.eq_ofNat_of_zero_le hr.1
        obtain ⟨x, rfl⟩ := Int.eq_ofNat_of_zero_le ha.1
        rw [zs_length] at ha hr hk
        have h3 := pow16 hg
        have e := iword_l m hg own [(i : Int)] (fun y hy => by rw [List.mem_singleton] at hy; subst hy; exact hr) (by show 1 < 2 ^ 40; decide) 1 0 k x rfl (by omega) (by omega)
        rw [if_pos rfl, if_pos rfl, if_pos rfl, if_neg (by show ¬ ((1 : Nat) : Int) > 200; omega), impl_PressWord.j0, if_neg (by decide), grTog_f m hg own i (by omega)]
        simp only [bs]
        have h4 := tgl_lt hg own (i := i) (by omega)
        rw [xorn _ _ (by omega) (by omega)]
        refine ⟨_, rfl, ?_⟩
        have e2 : wordEff m own x (([(i : Int)] : List Int).drop 0) = x ^^^ tgl m own i := rfl
        rw [e2] at e
        exact (congrArg (fun o => o.bind fun bt : Int × Bool => some (bt.1, bt.2)) e).trans (bs _ _)
      · rw [decide_eq_true ha, decide_eq_false hr]
        refine ⟨(0, false), by rw [if_pos rfl, if_neg (by decide)], ?_⟩
        rw [if_pos rfl, if_neg (by show ¬ ((1 : Nat) : Int) > 200; omega), impl_PressWord.j0, if_pos (by decide)]; simp only [bs]
    · rw [decide_eq_false ha]
      exact ⟨(0, false), if_neg (by decide), by rw [if_neg (by decide), impl_PressWord.j0, if_pos rfl]; simp only [bs]⟩
theorem FnExactPressButton (l : List Int) (own : Bool) (a b : Int) (hl : l.length ≤ maxLen) (_ : ∀ x ∈ l, (Lit.int .i64 x).wf = true) (_ : (Lit.int .i64 a).wf = true) (_ : (Lit.int .i64 b).wf = true) : ∃ k, laws_FnExactPressButton.f k l own a b = some true := by
  refine ⟨l.length + 300, ?_⟩
  unfold laws_FnExactPressButton.f
  rw [szGraph_f l own 1048576 hl (by decide) (by decide)]
  simp only [bs]
  by_cases h : (1048576 : Int) < (l.length : Int)
  · rw [if_pos h, if_pos (by decide)]
  · have hl2 : l.length < 2 ^ 40 := by omega
    obtain ⟨r, h1, h2⟩ := both l own a b (l.length + 300) (by omega)
    rw [if_neg h, if_neg (by omega), toGraph_f l own hl2 _ (by omega)]
    simp only [bs]
    rw [h1]
    simp only [bs]
    rw [h2]
    simp only [bs]
    rw [if_pos trivial]
    simp only [bne_self_eq_false]
    rw [laws_FnExactPressButton.j0, if_neg (by decide), toGraph_f l own hl2 _ (by omega)]
    simp only [bs]
    rw [eqGraph_self l own (by omega) _ (by omega)]
    simp only [bs, if_true]

end Go.Proofs.Ytgljddfglidjpaa.Pure
