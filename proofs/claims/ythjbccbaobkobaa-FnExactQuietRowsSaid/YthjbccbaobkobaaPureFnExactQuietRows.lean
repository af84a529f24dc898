/- QuietRows of the program and of the reference agree, and their lists are new memory: for all arguments. -/
import Derived.Test.YthjbccbaobkobaaLemFnExactQuietRows
namespace Go.Proofs.Ythjbccbaobkobaa.Pure
open Go.RowKit Go.Proofs.Ythjbccbaobkobaa.PFnExactQuietRows Go.Proofs.YthjbccbaobkobaaW.PrintWords Go.Proofs.YthjbccbaobkobaaW.PrintLast Go.Proofs.Ythjbccbaobkobaa.Bit Go.Proofs.Ythjbccbaobkobaa.Row Go.Proofs.Ythjbccbaobkobaa.Lin Go.Proofs.Ythjbccbaobkobaa.LemFnExactQuietRows

theorem spec_l (c : Nat) (hc : c ≤ 8) (own : Bool) (f : Nat) (hf : f < 2 ^ c) (most : Nat) (hm : most ≤ 200) : ∀ n i k, i + n = most → n + 300 < k → spec_QuietRows.l0 k (c : Int) own (f : Int) (most : Int) (zs (qrs c own f (i + 1))) ((i : Int) + 1) = some (zs (qrs c own f (most + 1)), true) := by
  intro n
  induction n with
  | zero =>
    intro i k hi hk
    obtain ⟨k, rfl⟩ : ∃ m, k = m + 1 := ⟨k - 1, by omega⟩
    rw [spec_QuietRows.l0, if_neg (by omega), show i = most by omega]
  | succ n ih =>
    intro i k hi hk
    obtain ⟨k, rfl⟩ : ∃ m, k = m + 1 := ⟨k - 1, by omega⟩
    have hs : qrs c own f (i + 1 + 1) = if 1 ≤ i + 1 ∧ (cr c own 0 f (i + 1)).2 = 0 then qrs c own f (i + 1) ++ [i + 1] else qrs c own f (i + 1) := rfl
    have hl := qrs_len c own f (i + 1)
    have ihs := ih (i + 1) k (by omega) (by omega)
    rw [spec_QuietRows.l0, if_pos (by omega), show ((i : Int) + 1) = ((i + 1 : Nat) : Int) from rfl, csBehind_f c (by omega) own f hf (i + 1) k (by omega) (by omega)]
    simp only [bs]
    rw [show (((i + 1 : Nat) : Int) + 1) = ((i + 2 : Nat) : Int) from rfl, wrapn _ (by omega)]
    by_cases h0 : (cr c own 0 f (i + 1)).2 = 0
    · rw [hs, if_pos ⟨by omega, h0⟩, zs_append, zs_one] at ihs
      rw [if_pos (by omega), if_pos (by rw [zs_length]; omega)]
      exact ihs
    · rw [hs, if_neg (fun e => h0 e.2)] at ihs
      rw [if_neg (by omega)]
      exact ihs
theorem both (c : Int) (own : Bool) (f most : Int) : ∃ r : List Int × Bool, r.1.length ≤ 201 ∧ (∀ k, 600 ≤ k → spec_QuietRows.f k c own f most = some r) ∧ impl_QuietRows.f c own f most = some r := by
  unfold impl_QuietRows.f
  by_cases hok : qrOk c f most = true
  · rw [if_pos hok]
    unfold qrOk at hok
    simp only [Bool.and_eq_true, decide_eq_true_eq] at hok
    obtain ⟨⟨hc, hf⟩, h0, hm⟩ := hok
    obtain ⟨c, rfl⟩ := Int.eq_ofNat_of_zero_le (show 0 ≤ c by omega)
    obtain ⟨f, rfl⟩ := Int.eq_ofNat_of_zero_le hf.1
    obtain ⟨most, rfl⟩ := Int.eq_ofNat_of_zero_le hm.1
    simp only [Int.toNat_natCast] at hf ⊢
    have hq := Nat.two_pow_pos c
    have hf2 : f < 2 ^ c := by omega
    refine ⟨_, ?_, fun k hk => ?_, rfl⟩
    · have := qrs_len c own f (most + 1)
      show (zs _).length ≤ 201
      rw [zs_length]; omega
    · obtain ⟨k, rfl⟩ : ∃ m, k = m + 1 := ⟨k - 1, by omega⟩
      unfold spec_QuietRows.f
      rw [csWide_f, decide_eq_true hc, Int.toNat_natCast, decide_eq_true hf]
      simp only [bs, Bool.and_self, if_true]
      rw [if_neg h0, l1In_f]
      simp only [bs]
      rw [decide_eq_true hm, spec_QuietRows.j0, if_neg (by decide)]
      exact spec_l c (by omega) own f hf2 most (by omega) most 0 k (by omega) (by omega)
  · rw [if_neg hok]
    refine ⟨([], false), by simp, fun k hk => ?_, rfl⟩
    obtain ⟨k, rfl⟩ : ∃ m, k = m + 1 := ⟨k - 1, by omega⟩
    unfold qrOk at hok
    unfold spec_QuietRows.f
    rw [csWide_f]
    simp only [bs]
    by_cases h1 : (decide (1 ≤ c ∧ c ≤ 8) && decide (0 ≤ f ∧ f ≤ ((2 ^ c.toNat - 1 : Nat) : Int))) = true
    · rw [if_pos h1]
      rw [h1, Bool.true_and] at hok
      by_cases h0 : f = 0
      · rw [if_pos h0, spec_QuietRows.j0, if_pos rfl]
      · rw [if_neg h0, l1In_f]
        simp only [bs]
        rw [decide_eq_true h0, Bool.true_and, decide_eq_true_eq] at hok
        rw [decide_eq_false hok, spec_QuietRows.j0, if_pos (by decide)]
    · rw [if_neg h1, spec_QuietRows.j0, if_pos rfl]
theorem law_of {c own f most : _} {l : List Int} {b : Bool} {K : Nat} (hl : l.length < 2 ^ 62) (hs : ∀ k, K ≤ k → spec_QuietRows.f k c own f most = some (l, b)) (hi : impl_QuietRows.f c own f most = some (l, b)) : laws_FnExactQuietRows.f (K + l.length + 5) c own f most = some true := by
  unfold laws_FnExactQuietRows.f
  rw [hs _ (by omega)]
  simp only [bs]
  rw [hi]
  simp only [bs]
  rw [eqIntS_self l hl _ (by omega)]
  simp only [bs, if_true, bne_self_eq_false]
  rw [laws_FnExactQuietRows.j0, if_neg (by decide), mark_any l hl _ (by omega)]
  simp only [bs]
  rw [held_any l.length hl _ (by omega)]
  simp only [bs]
  rw [if_neg (by omega), if_true, hi]
  simp only [bs]
  rw [eqIntS_self l hl _ (by omega)]
  simp only [bs, if_true, bne_self_eq_false]
  rw [laws_FnExactQuietRows.j1, if_neg (by decide), held_any l.length hl _ (by omega)]
  simp only [bs]
  rw [if_neg (by omega), if_true]
theorem FnExactQuietRows : laws_FnExactQuietRows.Pure := by
  intro c own f most _ _ _
  obtain ⟨⟨l, b⟩, hl, h1, h2⟩ := both c own f most
  obtain ⟨K, hK⟩ : ∃ K : Nat, K = 600 := ⟨_, rfl⟩
  exact ⟨_, law_of (K := K) (l := l) (b := b) (by dsimp only at hl; omega) (fun k hk => h1 k (by omega)) h2⟩

end Go.Proofs.Ythjbccbaobkobaa.Pure
