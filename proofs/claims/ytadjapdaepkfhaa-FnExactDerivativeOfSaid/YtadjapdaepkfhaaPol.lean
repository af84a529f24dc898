/- Plain words on polynomials over two elements as natural numbers: backwards, derivative, division. No program here. -/
import Derived.Test.YtadjapdaepkfhaaGra
namespace Go.Proofs.Ytadjapdaepkfhaa.Pol
open Go.Proofs.Ytadjapdaepkfhaa.Lin Go.Proofs.Ytadjapdaepkfhaa.Gra

/-- The first j places of a polynomial of degree d, backwards. -/
def revTo (p d : Nat) : Nat → Nat
  | 0 => 0
  | j + 1 => if p.testBit (d - j) then revTo p d j ||| 2 ^ j else revTo p d j
theorem revTo_lt (p d : Nat) : ∀ j, revTo p d j < 2 ^ j
  | 0 => by show 0 < _; exact Nat.two_pow_pos 0
  | j + 1 => by
    have h := revTo_lt p d j
    have h2 : 2 ^ j < 2 ^ (j + 1) := Nat.pow_lt_pow_right (by decide) (by omega)
    unfold revTo
    split
    · exact Nat.or_lt_two_pow (by omega) h2
    · omega
/-- The derivative's terms out of the first j odd ones. -/
def derTo (p : Nat) : Nat → Nat
  | 0 => 0
  | j + 1 => if p.testBit (2 * j + 1) then derTo p j ||| 2 ^ (2 * j) else derTo p j
theorem derTo_lt (p : Nat) : ∀ j, derTo p j < 2 ^ (2 * j)
  | 0 => by show 0 < _; exact Nat.two_pow_pos _
  | j + 1 => by
    have h := derTo_lt p j
    have h2 : 2 ^ (2 * j) < 2 ^ (2 * (j + 1)) := Nat.pow_lt_pow_right (by decide) (by omega)
    unfold derTo
    split
    · exact Nat.or_lt_two_pow (by omega) h2
    · omega
theorem derTo_stop {p j : Nat} (h : p < 2 ^ (2 * j + 1)) : ∀ n, derTo p (j + n) = derTo p j
  | 0 => rfl
  | n + 1 => by
    have : p.testBit (2 * (j + n) + 1) = false := Nat.testBit_lt_two_pow (Nat.lt_of_lt_of_le h (Nat.pow_le_pow_right (by decide) (by omega)))
    have e : derTo p (j + (n + 1)) = if p.testBit (2 * (j + n) + 1) then derTo p (j + n) ||| 2 ^ (2 * (j + n)) else derTo p (j + n) := rfl
    rw [e, this]
    exact derTo_stop h n
/-- n steps of a division by q, whose degree is d. -/
def dv (q d : Nat) : Nat → Nat → Nat → Nat × Nat
  | 0, p, o => (o, p)
  | n + 1, p, o => if p.testBit (n + d) then dv q d n (p ^^^ q * 2 ^ n) (o ||| 2 ^ n) else dv q d n p o

theorem topI_lt {p n : Nat} (h : p < 2 ^ n) : topI p < (n : Int) := by
  unfold topI
  split
  · omega
  · rename_i h0
    have := (Nat.log2_lt h0).2 h
    omega
theorem topI_top {p n : Nat} (h : p < 2 ^ (n + 1)) (hb : p.testBit n = true) : topI p = (n : Int) := by
  have h0 := ne_of_bit hb
  have h1 := le_top hb
  have h2 := (Nat.log2_lt h0).2 h
  unfold topI
  rw [if_neg h0]
  omega
theorem lt_of_not_bit {p n : Nat} (h : p < 2 ^ (n + 1)) (hb : p.testBit n = false) : p < 2 ^ n := by
  rcases Nat.lt_or_ge p (2 ^ n) with h1 | h1
  · exact h1
  · have : p / 2 ^ n = 1 := by
      apply Nat.div_eq_of_lt_le
      · omega
      · rw [Nat.pow_succ] at h; omega
    rw [Nat.testBit_eq_decide_div_mod_eq, this] at hb
    cases hb
/-- Behind a step of a division the degree is less. -/
theorem step_lt {p q n d : Nat} (hp : p < 2 ^ (n + d + 1)) (hb : p.testBit (n + d) = true) (hq : q < 2 ^ (d + 1)) (hqb : q.testBit d = true) : p ^^^ q * 2 ^ n < 2 ^ (n + d) := by
  apply lt_of_not_bit
  · refine Nat.xor_lt_two_pow hp ?_
    rw [show n + d + 1 = d + 1 + n by omega, Nat.pow_add]
    exact Nat.mul_lt_mul_of_pos_right hq (Nat.two_pow_pos n)
  · rw [Nat.testBit_xor, hb, Nat.mul_comm, Nat.testBit_two_pow_mul]
    simp [hqb]

end Go.Proofs.Ytadjapdaepkfhaa.Pol
