-- WRITTEN BY xprint.py, a program of this session, which runs the kit's print over functions with given contracts
import Derived.Test.YtgljddfglidjpaaPBasex0
namespace Go.Proofs.Ytgljddfglidjpaa.PBase
open Go.RowKit Go.Proofs.YtgljddfglidjpaaW.PrintWords Go.Proofs.YtgljddfglidjpaaW.PrintLast Go.Proofs.YtgljddfglidjpaaW.PrintMore
attribute [local go_sem] max2_int min2_int max_two min_two max_three min_three max_four min_four   -- for this text's walks alone
set_option linter.unusedVariables false
set_option linter.unusedSimpArgs false

/-! ### impl_top: function 79 -/
section
open Go.Proofs.Ytgljddfglidjpaa.Bit Go.Proofs.Ytgljddfglidjpaa.Gra
def impl_top.f (a0 : Int) : Option (Int) := if 0 ≤ a0 then (if a0 ≤ two62 then some (topI a0.toNat) else none) else none
theorem tp_len (n : Nat) (h : n < 2 ^ 64) : ((Lib.bitLen n : Nat) : Int) - 1 = topI n := by
  unfold topI Lib.bitLen
  by_cases h0 : n = 0
  · rw [if_pos h0, h0, Lib.bitLenAux_zero]; rfl
  · rw [if_neg h0]
    obtain ⟨h1, h2, h3⟩ := Lib.bitLenAux_bounds 64 n h h0
    have h4 : n.log2 < Lib.bitLenAux 64 n := (Nat.log2_lt h0).2 h3
    have h5 : Lib.bitLenAux 64 n - 1 ≤ n.log2 := (Nat.le_log2 h0).2 h2
    omega
set_option maxHeartbeats 400000 in
theorem impl_top.calls (a0 : Int) (r : Int) (w : World) (h : impl_top.f a0 = some r) :
    Calls Try.prog 79 #[.int .i64 a0] w fun e w' => e = .returned (.int .i64 r) ∧ Drawn0 w w' := by
  unfold impl_top.f at h
  by_cases h0 : 0 ≤ a0
  · by_cases h1 : a0 ≤ two62
    · rw [if_pos h0, if_pos h1] at h
      obtain rfl : topI a0.toNat = r := Option.some.inj h
      unfold two62 at h1
      have hl := Try.bits_Len a0
      have ht : Aside0 (((Lib.bitLen a0.toNat : Nat) : Int) - 1 = topI a0.toNat) := ⟨tp_len a0.toNat (by omega)⟩
      have hb : ((Lib.bitLen a0.toNat : Nat) : Int) ≤ 64 := by
        have : a0.toNat.log2 < 64 ∨ a0.toNat = 0 := by
          by_cases e : a0.toNat = 0
          · exact .inr e
          · exact .inl ((Nat.log2_lt e).2 (by omega))
        have := ht.out
        unfold topI at this
        split at this <;> omega
      generalize topI a0.toNat = t at *
      have hl2 := fun w => hl w h0 (by omega)
      clear hl
      generalize Lib.bitLen a0.toNat = bl at *
      go_enter Try.func79, Try.ntmps79
      go_wp2_with fail
      refine (hl2 _).mono ?_
      rintro e w' ⟨rfl, rfl⟩
      go_wp2
      go_ret
      exact ⟨by rw [← ht.out]; rfl, Drawn0.refl _⟩
    · rw [if_pos h0, if_neg h1] at h; cases h
  · rw [if_neg h0] at h; cases h
end

/-! ### impl_has: function 80 -/
def impl_has.f (a0 : Int) (a1 : Int) : Option (Bool) := if 0 ≤ a1 then (some ((Go.bits .and .i64 (shr .i64 a0 a1) 1) == 1)) else (none)
set_option maxHeartbeats 8000000 in
set_option maxRecDepth 100000 in
theorem impl_has.calls (a0 : Int) (a1 : Int) (r : Bool) (w : World) (h : impl_has.f a0 a1 = some r) :
    Calls Try.prog 80 #[.int .i64 a0, .int .i64 a1] w fun e w' => e = .returned (.bool r) ∧ Drawn0 w w' := by
  have H : (if 0 ≤ a1 then (some ((Go.bits .and .i64 (shr .i64 a0 a1) 1) == 1)) else (none)) = some r := h
  clear h
  by_cases c3 : 0 ≤ a1
  · rw [if_pos c3] at H
    have c3b0 := eq_true c3
    have c3b1 : decide (0 ≤ a1) = true := decide_eq_true c3
    clear c3
    obtain ⟨ji4, hji4⟩ : ∃ j_ : Int, (shr .i64 a0 a1) = j_ := ⟨_, rfl⟩
    replace H : (some ((Go.bits .and .i64 (ji4) 1) == 1)) = some r := by first | (rw [hji4] at H; exact H) | (simp only [hji4] at H ⊢; exact H)
    have hji4_ : (a0 / 2 ^ min a1.toNat 64) = ji4 := hji4
    have hji4z : a1 ≤ 64 → (a0 / 2 ^ a1.toNat) = ji4 := shr_small hji4
    obtain rfl := Option.some.inj H
    go_enter Try.func80, Try.ntmps80
    go_wp2
    go_ret
    exact ⟨by first | rfl | (simp; done) | (simp only [← hji4] <;> (first | rfl | simp)) | (simp [*]; done), by repeat (first | exact Drawn0.refl _ | apply Drawn0.step)⟩
  · rw [if_neg c3] at H
    exact absurd H (by simp)

end Go.Proofs.Ytgljddfglidjpaa.PBase
