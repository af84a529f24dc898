/- Plain words on the period of a pattern of rows: behind how many rows it comes again, at most 6 columns. No program here. -/
import Derived.Test.YtgnjndkbccakgaaRow
namespace Go.Proofs.Ytgnjndkbccakgaa.Row
open Go.Proofs.Ytgnjndkbccakgaa.Lin

theorem cr_step (c : Nat) (own : Bool) (f i : Nat) : cr c own 0 f (i + 1) = ((cr c own 0 f i).2, tog c own (cr c own 0 f i).2 ^^^ (cr c own 0 f i).1) := by
  rw [cr]
  unfold rowOf
  rw [Nat.zero_div, Nat.zero_and, Nat.zero_xor, Nat.xor_comm]
/-- From the row k on, at most n rows: the first at which the pattern begins again. -/
def perGo (c : Nat) (own : Bool) (f : Nat) : Nat → Nat → Nat × Nat → Nat × Nat × Nat
  | 0, k, s => (k, s)
  | n + 1, k, s => if s.1 = 0 ∧ s.2 = f then (k, s) else perGo c own f n (k + 1) (s.2, tog c own s.2 ^^^ s.1)
def per (c : Nat) (own : Bool) (f : Nat) : Nat := (perGo c own f 200 1 (f, tog c own f)).1
theorem perGo_is (c : Nat) (own : Bool) (f : Nat) : ∀ n k, ∃ K, perGo c own f n k (cr c own 0 f k) = (K, cr c own 0 f K) ∧ k ≤ K ∧ K ≤ k + n ∧ ∀ i, k ≤ i → i < K → ¬ ((cr c own 0 f i).1 = 0 ∧ (cr c own 0 f i).2 = f)
  | 0, k => ⟨k, rfl, Nat.le_refl _, Nat.le_refl _, fun i h1 h2 => by omega⟩
  | n + 1, k => by
    by_cases h : (cr c own 0 f k).1 = 0 ∧ (cr c own 0 f k).2 = f
    · exact ⟨k, by rw [perGo, if_pos h], Nat.le_refl _, by omega, fun i h1 h2 => by omega⟩
    · obtain ⟨K, e, h1, h2, h3⟩ := perGo_is c own f n (k + 1)
      refine ⟨K, ?_, by omega, by omega, fun i h4 h5 => ?_⟩
      · rw [perGo, if_neg h, ← cr_step]; exact e
      · by_cases he : i = k
        · subst he; exact h
        · exact h3 i (by omega) h5
theorem per_all : ∀ c : Fin 7, ∀ own : Bool, ∀ f : Fin 64, f.val < 2 ^ c.val → f.val ≠ 0 → (perGo c.val own f.val 200 1 (f.val, tog c.val own f.val)).2 = (0, f.val) := by decide +kernel
/-- The period is the least row from 1 on at which the row before is 0 and the row is the first one. -/
theorem per_is (c : Nat) (hc : c ≤ 6) (own : Bool) (f : Nat) (hf : f < 2 ^ c) (h0 : f ≠ 0) : 1 ≤ per c own f ∧ per c own f ≤ 201 ∧ cr c own 0 f (per c own f) = (0, f) ∧ ∀ i, 1 ≤ i → i < per c own f → ¬ ((cr c own 0 f i).1 = 0 ∧ (cr c own 0 f i).2 = f) := by
  have hp : (2 : Nat) ^ c ≤ 2 ^ 6 := Nat.pow_le_pow_right (by decide) hc
  have h1 := per_all ⟨c, by omega⟩ own ⟨f, by omega⟩ hf h0
  obtain ⟨K, e, h2, h3, h4⟩ := perGo_is c own f 200 1
  have e1 : cr c own 0 f 1 = (f, tog c own f) := by rw [cr_step]; show (f, tog c own f ^^^ 0) = _; rw [Nat.xor_zero]
  rw [e1] at e
  have e2 : (perGo c own f 200 1 (f, tog c own f)).2 = (0, f) := h1
  rw [e] at e2
  have e3 : per c own f = K := by unfold per; rw [e]
  rw [e3]
  exact ⟨h2, by omega, e2, h4⟩

end Go.Proofs.Ytgnjndkbccakgaa.Row
