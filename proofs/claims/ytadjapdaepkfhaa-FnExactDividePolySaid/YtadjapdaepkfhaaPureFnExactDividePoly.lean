/- DividePoly of the program and of the reference agree: for all p and q. -/
import Derived.Test.YtadjapdaepkfhaaLemFnExactDividePoly
namespace Go.Proofs.Ytadjapdaepkfhaa.Pure
open Go.RowKit Go.Proofs.Ytadjapdaepkfhaa.PFnExactDividePoly Go.Proofs.YtadjapdaepkfhaaW.PrintWords Go.Proofs.YtadjapdaepkfhaaW.PrintLast Go.Proofs.Ytadjapdaepkfhaa.Bit Go.Proofs.Ytadjapdaepkfhaa.Row Go.Proofs.Ytadjapdaepkfhaa.Lin Go.Proofs.Ytadjapdaepkfhaa.LemFnExactDividePoly Go.Proofs.Ytadjapdaepkfhaa.Gra Go.Proofs.Ytadjapdaepkfhaa.Pol

theorem law_of {p q x y : Int} {b : Bool} {k : Nat} (hs : spec_DividePoly.f k p q = some (x, y, b)) (hi : impl_DividePoly.f k p q = some (x, y, b)) : laws_FnExactDividePoly.f k p q = some true := by
  unfold laws_FnExactDividePoly.f
  rw [hs, hi]
  simp only [bs, if_true, bne_self_eq_false]
  rfl
theorem yes (p q : Nat) (h1 : 0 ≤ (p : Int) ∧ (p : Int) ≤ 2199023255551) (h2 : 0 ≤ (q : Int) ∧ (q : Int) ≤ 2199023255551) (h0 : q ≠ 0) : laws_FnExactDividePoly.f 200 (p : Int) (q : Int) = some true := by
  have hp : p < 2 ^ 41 := by omega
  have hl := (Nat.log2_lt (n := q) (k := 41) h0).2 (by omega)
  have hq : q < 2 ^ (q.log2 + 1) := Nat.lt_log2_self
  have hqb := top_bit h0
  have ht : topI q = (q.log2 : Int) := topI_top hq hqb
  -- how many steps: one more than the degrees differ, or none
  obtain ⟨n, hn, hn1, hn2⟩ : ∃ n : Nat, p < 2 ^ (n + q.log2) ∧ n + q.log2 ≤ 41 ∧ ((n : Int) - 1 = topI p - topI q ∨ n = 0 ∧ topI p - topI q < 0) := by
    by_cases hz : p = 0
    · subst hz
      exact ⟨0, Nat.two_pow_pos _, by omega, .inr ⟨rfl, by rw [ht]; show (-1 : Int) - _ < 0; omega⟩⟩
    · have hlp := (Nat.log2_lt (n := p) (k := 41) hz).2 hp
      have htp : topI p = (p.log2 : Int) := by unfold topI; rw [if_neg hz]
      have hps : p < 2 ^ (p.log2 + 1) := Nat.lt_log2_self
      rcases Nat.lt_or_ge p.log2 q.log2 with hlt | hge
      · exact ⟨0, Nat.lt_of_lt_of_le hps (Nat.pow_le_pow_right (by decide) (by omega)), by omega, .inr ⟨rfl, by rw [ht, htp]; omega⟩⟩
      · exact ⟨p.log2 - q.log2 + 1, by rw [show p.log2 - q.log2 + 1 + q.log2 = p.log2 + 1 by omega]; exact hps, by omega, .inl (by rw [ht, htp]; omega)⟩
  refine law_of (x := (((dv q q.log2 n p 0).1 : Nat) : Int)) (y := (((dv q q.log2 n p 0).2 : Nat) : Int)) (b := true) ?_ ?_
  · unfold spec_DividePoly.f
    rw [poGood_f, decide_eq_true h1]
    simp only [bs, if_true]
    rw [poGood_f, decide_eq_true h2]
    simp only [bs, if_true]
    rw [if_neg (by omega)]
    unfold spec_poDivide.f
    rw [poDegree_f p (by omega) 200 (by decide), poDegree_f q (by omega) 200 (by decide)]
    simp only [bs]
    have hb : -1 ≤ topI p ∧ topI p ≤ 63 ∧ -1 ≤ topI q ∧ topI q ≤ 63 := by
      have := topI_lt hp
      refine ⟨?_, by omega, by omega, by omega⟩
      unfold topI; split <;> omega
    rw [show wrap64 (topI p - topI q) = topI p - topI q from by unfold wrap64; omega]
    rcases hn2 with e | ⟨rfl, e⟩
    · rw [← e, show (0 : Int) = ((0 : Nat) : Int) from rfl, spec_div_l q q.log2 hq hqb (by omega) n p 0 200 hp hn1 (by decide) (by omega)]
      simp only [bs]
    · rw [spec_poDivide.l0, if_neg (by omega)]; rfl
  · unfold impl_DividePoly.f
    rw [isPoly_two, decide_eq_true h1, decide_eq_true h2]
    simp only [bs, Bool.and_self, if_true]
    rw [if_neg (by omega)]
    unfold impl_divide.f
    rw [show (0 : Int) = ((0 : Nat) : Int) from rfl, impl_div_l q q.log2 hq hqb (by omega) n p 0 200 hn hn1 (by decide) (by omega)]
    simp only [bs]
theorem FnExactDividePoly : laws_FnExactDividePoly.Pure := by
  intro p q _ _
  refine ⟨200, ?_⟩
  by_cases h1 : 0 ≤ p ∧ p ≤ 2199023255551
  · by_cases h2 : 0 ≤ q ∧ q ≤ 2199023255551
    · by_cases h0 : q = 0
      · refine law_of (x := 0) (y := 0) (b := false) ?_ ?_
        · unfold spec_DividePoly.f
          rw [poGood_f, decide_eq_true h1]
          simp only [bs, if_true]
          rw [poGood_f, decide_eq_true h2]
          simp only [bs, if_true]
          rw [if_pos h0]
        · unfold impl_DividePoly.f
          rw [isPoly_two, decide_eq_true h1, decide_eq_true h2]
          simp only [bs, Bool.and_self, if_true]
          rw [if_pos h0]
      · obtain ⟨p, rfl⟩ := Int.eq_ofNat_of_zero_le h1.1
        obtain ⟨q, rfl⟩ := Int.eq_ofNat_of_zero_le h2.1
        exact yes p q h1 h2 (by omega)
    · refine law_of (x := 0) (y := 0) (b := false) ?_ ?_
      · unfold spec_DividePoly.f
        rw [poGood_f, decide_eq_true h1]
        simp only [bs, if_true]
        rw [poGood_f, decide_eq_false h2]; rfl
      · unfold impl_DividePoly.f
        rw [isPoly_two, decide_eq_false h2, Bool.and_false]; rfl
  · refine law_of (x := 0) (y := 0) (b := false) ?_ ?_
    · unfold spec_DividePoly.f
      rw [poGood_f, decide_eq_false h1]; rfl
    · unfold impl_DividePoly.f
      rw [isPoly_two, decide_eq_false h1, Bool.false_and]; rfl

end Go.Proofs.Ytadjapdaepkfhaa.Pure
