/- How many elements a set has, as the program's library reckons it. Natural numbers alone: no program here. -/
import Derived.Test.YtgnjndkbccakgaaBit
namespace Go.Proofs.Ytgnjndkbccakgaa.Pop
open Go Go.RowKit Go.Proofs.YtgnjndkbccakgaaW.PrintWords Go.Proofs.Ytgnjndkbccakgaa.Bit
theorem cw (a b : Nat) (h : a + b < 2 ^ 64) : IntKind.u64.wrap ((a : Int) + (b : Int)) = ((a + b : Nat) : Int) := by rw [IntKind.wrap_u64]; omega
theorem wraps_u64 (n : Int) (h₀ : 0 ≤ n) (h₁ : n < 2 ^ 64) : IntKind.u64.wrap n = n := by rw [IntKind.wrap_u64]; omega
theorem andu (a b : Nat) (ha : a < 2 ^ 64) (hb : b < 2 ^ 64) : Go.bits .and .u64 (a : Int) (b : Int) = ((a &&& b : Nat) : Int) :=
  (bits_nat .u64 64 (by decide) wraps_u64 a b ha hb).1
theorem cdiv (a b : Nat) : (a : Int) / ((b : Nat) : Int) = ((a / b : Nat) : Int) := by norm_cast
def c1 (n : Nat) : Nat := (n / 2 &&& 6148914691236517205) + (n &&& 6148914691236517205)
def c2 (n : Nat) : Nat := (n / 4 &&& 3689348814741910323) + (n &&& 3689348814741910323)
def c3 (n : Nat) : Nat := (n / 16 + n) &&& 1085102592571150095
theorem c1_f (n : Nat) (h : n < 2 ^ 64) : IntKind.u64.wrap (Go.bits .and .u64 ((n : Int) / 2) 6148914691236517205 + Go.bits .and .u64 (n : Int) 6148914691236517205) = ((c1 n : Nat) : Int) := by
  have h1 : n / 2 &&& 6148914691236517205 ≤ 6148914691236517205 := Nat.and_le_right
  have h2 : n &&& 6148914691236517205 ≤ 6148914691236517205 := Nat.and_le_right
  rw [show (n : Int) / 2 = ((n / 2 : Nat) : Int) from cdiv n 2, show (6148914691236517205 : Int) = ((6148914691236517205 : Nat) : Int) from rfl, andu _ _ (by omega) (by decide), andu _ _ h (by decide), cw _ _ (by omega)]; rfl
theorem c2_f (n : Nat) (h : n < 2 ^ 64) : IntKind.u64.wrap (Go.bits .and .u64 ((n : Int) / 4) 3689348814741910323 + Go.bits .and .u64 (n : Int) 3689348814741910323) = ((c2 n : Nat) : Int) := by
  have h1 : n / 4 &&& 3689348814741910323 ≤ 3689348814741910323 := Nat.and_le_right
  have h2 : n &&& 3689348814741910323 ≤ 3689348814741910323 := Nat.and_le_right
  rw [show (n : Int) / 4 = ((n / 4 : Nat) : Int) from cdiv n 4, show (3689348814741910323 : Int) = ((3689348814741910323 : Nat) : Int) from rfl, andu _ _ (by omega) (by decide), andu _ _ h (by decide), cw _ _ (by omega)]; rfl
theorem c1_lt (n : Nat) : c1 n < 2 ^ 64 := by
  have h1 : n / 2 &&& 6148914691236517205 ≤ 6148914691236517205 := Nat.and_le_right
  have h2 : n &&& 6148914691236517205 ≤ 6148914691236517205 := Nat.and_le_right
  unfold c1; omega
theorem c2_lt (n : Nat) : c2 n ≤ 7378697629483820646 := by
  have h1 : n / 4 &&& 3689348814741910323 ≤ 3689348814741910323 := Nat.and_le_right
  have h2 : n &&& 3689348814741910323 ≤ 3689348814741910323 := Nat.and_le_right
  unfold c2; omega
theorem c3_f (n : Nat) (h : n ≤ 7378697629483820646) : Go.bits .and .u64 (IntKind.u64.wrap ((n : Int) / 16 + (n : Int))) 1085102592571150095 = ((c3 n : Nat) : Int) := by
  rw [show (n : Int) / 16 = ((n / 16 : Nat) : Int) from cdiv n 16, cw _ _ (by omega), show (1085102592571150095 : Int) = ((1085102592571150095 : Nat) : Int) from rfl, andu _ _ (by omega) (by decide)]; rfl
theorem c3_lt (n : Nat) : c3 n ≤ 1085102592571150095 := Nat.and_le_right
def c4 (n : Nat) : Nat := n + n / 256
def c5 (n : Nat) : Nat := n + n / 65536
def c6 (n : Nat) : Nat := n + n / 4294967296
theorem c4_f (n : Nat) (h : n ≤ 1085102592571150095) : IntKind.u64.wrap ((n : Int) + (n : Int) / 256) = ((c4 n : Nat) : Int) := by
  rw [show (n : Int) / 256 = ((n / 256 : Nat) : Int) from cdiv n 256, cw _ _ (by omega)]; rfl
theorem c4_lt (n : Nat) (h : n ≤ 1085102592571150095) : c4 n ≤ 2 * 1085102592571150095 := by unfold c4; omega
theorem c5_f (n : Nat) (h : n ≤ 2 * 1085102592571150095) : IntKind.u64.wrap ((n : Int) + (n : Int) / 65536) = ((c5 n : Nat) : Int) := by
  rw [show (n : Int) / 65536 = ((n / 65536 : Nat) : Int) from cdiv n 65536, cw _ _ (by omega)]; rfl
theorem c5_lt (n : Nat) (h : n ≤ 2 * 1085102592571150095) : c5 n ≤ 3 * 1085102592571150095 := by unfold c5; omega
theorem c6_f (n : Nat) (h : n ≤ 3 * 1085102592571150095) : IntKind.u64.wrap ((n : Int) + (n : Int) / 4294967296) = ((c6 n : Nat) : Int) := by
  rw [show (n : Int) / 4294967296 = ((n / 4294967296 : Nat) : Int) from cdiv n 4294967296, cw _ _ (by omega)]; rfl
theorem c6_lt (n : Nat) (h : n ≤ 3 * 1085102592571150095) : c6 n ≤ 4 * 1085102592571150095 := by unfold c6; omega
def cc (n : Nat) : Nat := c6 (c5 (c4 (c3 (c2 (c1 n))))) &&& 127
/-- How many bits below k a number has. -/
def pop : Nat → Nat → Nat
  | 0, _ => 0
  | k + 1, n => n % 2 + pop k (n / 2)
theorem cc_pop0 : ∀ hi : Fin 16, ∀ lo : Fin 256, cc ((0 + hi.val) * 256 + lo.val) = pop 16 ((0 + hi.val) * 256 + lo.val) := by decide +kernel
theorem cc_pop1 : ∀ hi : Fin 16, ∀ lo : Fin 256, cc ((16 + hi.val) * 256 + lo.val) = pop 16 ((16 + hi.val) * 256 + lo.val) := by decide +kernel
theorem cc_pop2 : ∀ hi : Fin 16, ∀ lo : Fin 256, cc ((32 + hi.val) * 256 + lo.val) = pop 16 ((32 + hi.val) * 256 + lo.val) := by decide +kernel
theorem cc_pop3 : ∀ hi : Fin 16, ∀ lo : Fin 256, cc ((48 + hi.val) * 256 + lo.val) = pop 16 ((48 + hi.val) * 256 + lo.val) := by decide +kernel
theorem cc_pop4 : ∀ hi : Fin 16, ∀ lo : Fin 256, cc ((64 + hi.val) * 256 + lo.val) = pop 16 ((64 + hi.val) * 256 + lo.val) := by decide +kernel
theorem cc_pop5 : ∀ hi : Fin 16, ∀ lo : Fin 256, cc ((80 + hi.val) * 256 + lo.val) = pop 16 ((80 + hi.val) * 256 + lo.val) := by decide +kernel
theorem cc_pop6 : ∀ hi : Fin 16, ∀ lo : Fin 256, cc ((96 + hi.val) * 256 + lo.val) = pop 16 ((96 + hi.val) * 256 + lo.val) := by decide +kernel
theorem cc_pop7 : ∀ hi : Fin 16, ∀ lo : Fin 256, cc ((112 + hi.val) * 256 + lo.val) = pop 16 ((112 + hi.val) * 256 + lo.val) := by decide +kernel
theorem cc_pop8 : ∀ hi : Fin 16, ∀ lo : Fin 256, cc ((128 + hi.val) * 256 + lo.val) = pop 16 ((128 + hi.val) * 256 + lo.val) := by decide +kernel
theorem cc_pop9 : ∀ hi : Fin 16, ∀ lo : Fin 256, cc ((144 + hi.val) * 256 + lo.val) = pop 16 ((144 + hi.val) * 256 + lo.val) := by decide +kernel
theorem cc_pop10 : ∀ hi : Fin 16, ∀ lo : Fin 256, cc ((160 + hi.val) * 256 + lo.val) = pop 16 ((160 + hi.val) * 256 + lo.val) := by decide +kernel
theorem cc_pop11 : ∀ hi : Fin 16, ∀ lo : Fin 256, cc ((176 + hi.val) * 256 + lo.val) = pop 16 ((176 + hi.val) * 256 + lo.val) := by decide +kernel
theorem cc_pop12 : ∀ hi : Fin 16, ∀ lo : Fin 256, cc ((192 + hi.val) * 256 + lo.val) = pop 16 ((192 + hi.val) * 256 + lo.val) := by decide +kernel
theorem cc_pop13 : ∀ hi : Fin 16, ∀ lo : Fin 256, cc ((208 + hi.val) * 256 + lo.val) = pop 16 ((208 + hi.val) * 256 + lo.val) := by decide +kernel
theorem cc_pop14 : ∀ hi : Fin 16, ∀ lo : Fin 256, cc ((224 + hi.val) * 256 + lo.val) = pop 16 ((224 + hi.val) * 256 + lo.val) := by decide +kernel
theorem cc_pop15 : ∀ hi : Fin 16, ∀ lo : Fin 256, cc ((240 + hi.val) * 256 + lo.val) = pop 16 ((240 + hi.val) * 256 + lo.val) := by decide +kernel
theorem cc_pop (n : Nat) (h : n < 65536) : cc n = pop 16 n := by
  have key : ∀ q, n / 4096 = q → (∀ hi : Fin 16, ∀ lo : Fin 256, cc ((16 * q + hi.val) * 256 + lo.val) = pop 16 ((16 * q + hi.val) * 256 + lo.val)) → cc n = pop 16 n := fun q hq hh => by
    have := hh ⟨n / 256 - 16 * q, by omega⟩ ⟨n % 256, by omega⟩
    have e : (16 * q + (n / 256 - 16 * q)) * 256 + n % 256 = n := by omega
    simp only [e] at this
    exact this
  have h16 : n / 4096 < 16 := by omega
  rcases h : n / 4096 with _ | _ | _ | _ | _ | _ | _ | _ | _ | _ | _ | _ | _ | _ | _ | _ | k
  · exact key 0 h cc_pop0
  · exact key 1 h cc_pop1
  · exact key 2 h cc_pop2
  · exact key 3 h cc_pop3
  · exact key 4 h cc_pop4
  · exact key 5 h cc_pop5
  · exact key 6 h cc_pop6
  · exact key 7 h cc_pop7
  · exact key 8 h cc_pop8
  · exact key 9 h cc_pop9
  · exact key 10 h cc_pop10
  · exact key 11 h cc_pop11
  · exact key 12 h cc_pop12
  · exact key 13 h cc_pop13
  · exact key 14 h cc_pop14
  · exact key 15 h cc_pop15
  · omega
theorem pop_le : ∀ k n, pop k n ≤ k
  | 0, _ => Nat.le_refl _
  | k + 1, n => by have := pop_le k (n / 2); unfold pop; omega

end Go.Proofs.Ytgnjndkbccakgaa.Pop
