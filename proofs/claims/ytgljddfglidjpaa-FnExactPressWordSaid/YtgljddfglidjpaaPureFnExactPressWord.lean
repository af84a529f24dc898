/- PressWord of the program and of the reference agree, for every graph, number and word. -/
import Derived.Test.YtgljddfglidjpaaLemFnExactPressWord
namespace Go.Proofs.Ytgljddfglidjpaa.Pure
open Go.RowKit Go.Proofs.Ytgljddfglidjpaa.PFnExactPressWord Go.Proofs.YtgljddfglidjpaaW.PrintWords Go.Proofs.YtgljddfglidjpaaW.PrintLast Go.Proofs.Ytgljddfglidjpaa.Bit Go.Proofs.Ytgljddfglidjpaa.Gra Go.Proofs.Ytgljddfglidjpaa.LemFnExactPressWord

theorem both (l : List Int) (own : Bool) (a : Int) (ws : List Int) (hws : ws.length < 2 ^ 40) (k : Nat) (hk : l.length + ws.length + 250 < k) : ∃ r, spec_PressWord.f k l own a ws = some r ∧ impl_PressWord.f k l own a ws = some r := by
  have hp := pow63 (y := 16) (by omega)
  obtain ⟨k, rfl⟩ : ∃ m, k = m + 1 := ⟨k - 1, by omega⟩
  have no : ∃ r, spec_PressWord.j0 (k + 1) a ws true l own = some r ∧ impl_PressWord.j0 (k + 1) a ws true l own = some r :=
    ⟨(0, false), by rw [spec_PressWord.j0, if_pos rfl], by rw [impl_PressWord.j0, if_pos rfl]⟩
  unfold spec_PressWord.f impl_PressWord.f
  rw [grSet_f, isSet_one, hasButton_all]
  simp only [bs]
  cases h : goodB l with
  | false => rw [Bool.false_and, if_neg (by decide), if_neg (by decide)]; exact no
  | true =>
    simp only [Bool.true_and]
    by_cases ha : 0 ≤ a ∧ a ≤ ((2 ^ l.length - 1 : Nat) : Int)
    · rw [decide_eq_true ha, if_pos rfl, if_pos rfl]
      by_cases hlen : (ws.length : Int) > 200
      · rw [if_pos hlen, if_pos hlen]; exact no
      · rw [if_neg hlen, if_neg hlen]
        obtain ⟨m, rfl, hg⟩ := good_zs h
        have h5 := hg.pos
        have h6 := hg.le
        rw [l1All_f ws 0 _ (by omega) _ (by omega), wrapi (n := ((zs m).length : Int) - 1) (by rw [zs_length]; omega) (by rw [zs_length]; omega)]
        simp only [bs]
        by_cases hr : ∀ x ∈ ws, 0 ≤ x ∧ x ≤ ((zs m).length : Int) - 1
        · rw [decide_eq_true hr]
          obtain ⟨x, rfl⟩ := Int.eq_ofNat_of_zero_le ha.1
          rw [zs_length] at ha hr hk
          have h3 := pow16 hg
          rw [impl_PressWord.j0, spec_PressWord.j0, if_neg (by decide), if_neg (by decide)]
          exact ⟨_, sword_l m hg own ws hr hws ws.length 0 k x (by omega) (by omega) (by omega), iword_l m hg own ws hr hws ws.length 0 k x (by omega) (by omega) (by omega)⟩
        · rw [decide_eq_false hr]; exact no
    · rw [decide_eq_false ha, if_neg (by decide), if_neg (by decide)]; exact no
theorem FnExactPressWord (l : List Int) (own : Bool) (a : Int) (ws : List Int) (hl : l.length ≤ maxLen) (_ : ∀ x ∈ l, (Lit.int .i64 x).wf = true) (_ : (Lit.int .i64 a).wf = true) (_ : ws.length ≤ maxLen) (_ : ∀ x ∈ ws, (Lit.int .i64 x).wf = true) : ∃ k, laws_FnExactPressWord.f k l own a ws = some true := by
  refine ⟨l.length + ws.length + 300, ?_⟩
  unfold laws_FnExactPressWord.f
  by_cases h0 : (ws.length : Int) > 1048576
  · rw [if_pos h0]
  rw [if_neg h0, szGraph_f l own 1048576 hl (by decide) (by decide)]
  simp only [bs]
  by_cases h : (1048576 : Int) < (l.length : Int)
  · rw [if_pos h, if_pos (by decide)]
  · have hl2 : l.length < 2 ^ 40 := by omega
    have hw2 : ws.length < 2 ^ 40 := by omega
    obtain ⟨r, h1, h2⟩ := both l own a ws hw2 (l.length + ws.length + 300) (by omega)
    rw [if_neg h, if_neg (by omega), toGraph_f l own hl2 _ (by omega)]
    simp only [bs]
    rw [toInt_f ws hw2 _ (by omega)]
    simp only [bs]
    rw [h1]
    simp only [bs]
    rw [h2]
    simp only [bs]
    rw [if_pos trivial]
    simp only [bne_self_eq_false]
    rw [laws_FnExactPressWord.j0, if_neg (by decide), toGraph_f l own hl2 _ (by omega)]
    simp only [bs]
    rw [eqGraph_self l own (by omega) _ (by omega)]
    simp only [bs, if_true]
    rw [toInt_f ws hw2 _ (by omega)]
    simp only [bs]
    rw [eqIntS_self ws (by omega) _ (by omega)]
    simp only [bs, if_true]

end Go.Proofs.Ytgljddfglidjpaa.Pure
