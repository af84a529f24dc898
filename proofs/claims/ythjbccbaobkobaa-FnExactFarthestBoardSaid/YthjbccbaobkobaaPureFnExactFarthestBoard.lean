/- FarthestBoard of the program and of the reference agree, for every graph. -/
import Derived.Test.YthjbccbaobkobaaLemFnExactFarthestBoard
import Derived.Test.YthjbccbaobkobaaFar
namespace Go.Proofs.Ythjbccbaobkobaa.Pure
open Go.RowKit Go.Proofs.Ythjbccbaobkobaa.PFnExactFarthestBoard Go.Proofs.YthjbccbaobkobaaW.PrintWords Go.Proofs.YthjbccbaobkobaaW.PrintLast Go.Proofs.Ythjbccbaobkobaa.Bit Go.Proofs.Ythjbccbaobkobaa.Gra Go.Proofs.Ythjbccbaobkobaa.LemFnExactFarthestBoard
open Go.Proofs.Ythjbccbaobkobaa.Lin Go.Proofs.Ythjbccbaobkobaa.Ker Go.Proofs.Ythjbccbaobkobaa.Sol Go.Proofs.Ythjbccbaobkobaa.Sog Go.Proofs.Ythjbccbaobkobaa.Exd

theorem both (l : List Int) (own : Bool) (k : Nat) (hk : l.length + 1500000 < k) : ∃ r, spec_FarthestBoard.f k l own = some r ∧ impl_FarthestBoard.f l own = some r := by
  unfold spec_FarthestBoard.f impl_FarthestBoard.f Far.fbF
  rw [show spec_grGood.f l own = some (goodB l) from rfl]
  simp only [bs]
  obtain ⟨k, rfl⟩ : ∃ j, k = j + 1 := ⟨k - 1, by omega⟩
  cases hG : goodB l with
  | false => exact ⟨(0, 0, false), by rw [if_neg (by decide), spec_FarthestBoard.j0, if_pos rfl], by rw [if_neg (by decide)]⟩
  | true =>
    rw [if_pos rfl, if_pos rfl, spec_FarthestBoard.j0]
    by_cases h10 : l.length ≤ 10
    · obtain ⟨m, rfl, hg⟩ := good_zs hG
      rw [zs_length] at h10
      rw [zs_length, decide_eq_false (by omega), if_neg (by decide), if_pos h10, tn_zs]
      have hs := sfar_l m hg own (2 ^ m.length - 1) 1 k (by have := Nat.two_pow_pos m.length; omega) (Nat.le_refl _) (by have := pow16 hg; omega)
      rw [Fap.far_one] at hs
      exact ⟨_, hs, rfl⟩
    · exact ⟨(0, 0, false), by rw [decide_eq_true (by omega), if_pos rfl], by rw [if_neg h10]⟩
theorem FnExactFarthestBoard (l : List Int) (own : Bool) (hl : l.length ≤ maxLen) (_ : ∀ x ∈ l, (Lit.int .i64 x).wf = true) : ∃ k, laws_FnExactFarthestBoard.f k l own = some true := by
  refine ⟨l.length + 2000000, ?_⟩
  unfold laws_FnExactFarthestBoard.f
  rw [szGraph_f l own 1048576 hl (by decide) (by decide)]
  simp only [bs]
  by_cases h : (1048576 : Int) < (l.length : Int)
  · rw [if_pos h, if_pos (by decide)]
  · have hl2 : l.length < 2 ^ 40 := by omega
    obtain ⟨r, h1, h2⟩ := both l own (l.length + 2000000) (by omega)
    rw [if_neg h, if_neg (by omega), toGraph_f l own hl2 _ (by omega)]
    simp only [bs]
    rw [h1]
    simp only [bs]
    rw [h2]
    simp only [bs]
    rw [if_pos trivial, if_pos trivial]
    simp only [bne_self_eq_false]
    rw [laws_FnExactFarthestBoard.j0, if_neg (by decide), toGraph_f l own hl2 _ (by omega)]
    simp only [bs]
    rw [eqGraph_self l own (by omega) _ (by omega)]
    simp only [bs, if_true]

end Go.Proofs.Ythjbccbaobkobaa.Pure
