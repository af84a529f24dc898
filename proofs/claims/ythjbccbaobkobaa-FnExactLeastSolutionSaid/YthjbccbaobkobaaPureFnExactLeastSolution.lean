/- LeastSolution of the program and of the reference agree, for every graph and number. -/
import Derived.Test.YthjbccbaobkobaaLemFnExactLeastSolution
import Derived.Test.YthjbccbaobkobaaEls
namespace Go.Proofs.Ythjbccbaobkobaa.Pure
open Go.RowKit Go.Proofs.Ythjbccbaobkobaa.PFnExactLeastSolution Go.Proofs.YthjbccbaobkobaaW.PrintWords Go.Proofs.YthjbccbaobkobaaW.PrintLast Go.Proofs.Ythjbccbaobkobaa.Bit Go.Proofs.Ythjbccbaobkobaa.Gra Go.Proofs.Ythjbccbaobkobaa.LemFnExactLeastSolution
open Go.Proofs.Ythjbccbaobkobaa.Lin Go.Proofs.Ythjbccbaobkobaa.Ker Go.Proofs.Ythjbccbaobkobaa.Sol Go.Proofs.Ythjbccbaobkobaa.Sog Go.Proofs.Ythjbccbaobkobaa.Exd

theorem both (l : List Int) (own : Bool) (a : Int) (k : Nat) (hk : l.length + 1500000 < k) : ∃ r, spec_LeastSolution.f k l own a = some r ∧ impl_LeastSolution.f l own a = some r := by
  unfold spec_LeastSolution.f impl_LeastSolution.f Els.lsF
  rw [grSet0_f]
  simp only [bs]
  rw [show (goodB l && decide (0 ≤ a ∧ a ≤ ((2 ^ l.length - 1 : Nat) : Int))) = okS l a from rfl]
  cases h : okS l a with
  | false => exact ⟨(0, false), if_neg (by decide), by rw [if_neg (by decide)]⟩
  | true =>
    unfold okS at h
    rw [Bool.and_eq_true, decide_eq_true_eq] at h
    obtain ⟨hG, hx0, hx1⟩ := h
    obtain ⟨x, rfl⟩ := Int.eq_ofNat_of_zero_le hx0
    obtain ⟨m, rfl, hg⟩ := good_zs hG
    have h16 := hg.le
    rw [zs_length] at hk hx1
    have hx16 : x < 2 ^ 16 := by
      have h1 : x ≤ 2 ^ m.length - 1 := by exact_mod_cast hx1
      have h2 := pow16 hg
      have h3 := Nat.two_pow_pos m.length
      exact Nat.lt_of_lt_of_le (show x < 2 ^ m.length by omega) h2
    have hsv_ : slvd (zs m) own (x : Int) = decide (red (img (tgls m own)) x = 0) := by
      unfold slvd lef
      rw [efs_zs, Int.toNat_natCast]
      exact decide_eq_decide.2 ((refP_solved _).trans (img_zero _ _).symm)
    clear hG hx0 hx1
    rw [if_pos rfl, if_pos rfl]
    rw [soLeast_f m hg own x hx16 k (by omega), efs_zs]
    simp only [bs]
    exact ⟨_, rfl, rfl⟩
theorem FnExactLeastSolution (l : List Int) (own : Bool) (a : Int) (hl : l.length ≤ maxLen) (_ : ∀ x ∈ l, (Lit.int .i64 x).wf = true) (_ : (Lit.int .i64 a).wf = true) : ∃ k, laws_FnExactLeastSolution.f k l own a = some true := by
  refine ⟨l.length + 2000000, ?_⟩
  unfold laws_FnExactLeastSolution.f
  rw [szGraph_f l own 1048576 hl (by decide) (by decide)]
  simp only [bs]
  by_cases h : (1048576 : Int) < (l.length : Int)
  · rw [if_pos h, if_pos (by decide)]
  · have hl2 : l.length < 2 ^ 40 := by omega
    obtain ⟨r, h1, h2⟩ := both l own a (l.length + 2000000) (by omega)
    rw [if_neg h, if_neg (by omega), toGraph_f l own hl2 _ (by omega)]
    simp only [bs]
    rw [h1]
    simp only [bs]
    rw [h2]
    simp only [bs]
    rw [if_pos trivial]
    simp only [bne_self_eq_false]
    rw [laws_FnExactLeastSolution.j0, if_neg (by decide), toGraph_f l own hl2 _ (by omega)]
    simp only [bs]
    rw [eqGraph_self l own (by omega) _ (by omega)]
    simp only [bs, if_true]

end Go.Proofs.Ythjbccbaobkobaa.Pure
