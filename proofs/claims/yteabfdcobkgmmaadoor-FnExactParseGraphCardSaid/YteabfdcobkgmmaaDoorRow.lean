/- Plain words on rows of presses: what a row toggles, what a chase presses and leaves, the pattern of rows. Natural numbers alone: no program here. -/
import Derived.Test.YteabfdcobkgmmaaDoorLin
namespace Go.Proofs.YteabfdcobkgmmaaDoor.Row
open Go.Proofs.YteabfdcobkgmmaaDoor.Lin

/-- What the presses of a row toggle in it. -/
def tog (c : Nat) (own : Bool) (row : Nat) : Nat := ((row * 2 ^^^ row / 2) &&& (2 ^ c - 1)) ^^^ (if own then row else 0)
/-- The row r of lights. -/
def rowOf (c L r : Nat) : Nat := L / 2 ^ (c * r) &&& (2 ^ c - 1)
/-- A chase: the presses of the rows r - 1 and r. -/
def cr (c : Nat) (own : Bool) (L first : Nat) : Nat → Nat × Nat
  | 0 => (0, first)
  | r + 1 => ((cr c own L first r).2, rowOf c L r ^^^ (cr c own L first r).1 ^^^ tog c own (cr c own L first r).2)
/-- The presses of the rows before r. -/
def prs (c : Nat) (own : Bool) (L first : Nat) : Nat → Nat
  | 0 => 0
  | r + 1 => prs c own L first r ||| (cr c own L first r).2 * 2 ^ (c * r)

theorem mask_lt (c x : Nat) : x &&& (2 ^ c - 1) < 2 ^ c := by
  rw [Nat.and_two_pow_sub_one_eq_mod]; exact Nat.mod_lt _ (Nat.two_pow_pos c)
theorem mask_of {c x : Nat} (h : x < 2 ^ c) : x &&& (2 ^ c - 1) = x := by
  rw [Nat.and_two_pow_sub_one_eq_mod]; exact Nat.mod_eq_of_lt h

theorem tog_lt {c : Nat} (own : Bool) {row : Nat} (h : row < 2 ^ c) : tog c own row < 2 ^ c := by
  unfold tog
  refine Nat.xor_lt_two_pow (mask_lt _ _) ?_
  split
  · exact h
  · exact Nat.two_pow_pos c

/-- The reference's words for the same. -/
theorem tog_own {c row : Nat} (h : row < 2 ^ c) : (row * 2 ^^^ row / 2 ^^^ row) &&& (2 ^ c - 1) = tog c true row := by
  unfold tog
  rw [Nat.and_xor_distrib_right, mask_of h]; rfl
theorem tog_not (c row : Nat) : (row * 2 ^^^ row / 2) &&& (2 ^ c - 1) = tog c false row := by
  unfold tog
  rw [if_neg (by decide), Nat.xor_zero]

theorem cr_lt {c : Nat} (own : Bool) (L : Nat) {first : Nat} (h : first < 2 ^ c) : ∀ r, (cr c own L first r).1 < 2 ^ c ∧ (cr c own L first r).2 < 2 ^ c
  | 0 => ⟨Nat.two_pow_pos c, h⟩
  | r + 1 => by
    have ih := cr_lt own L h r
    exact ⟨ih.2, Nat.xor_lt_two_pow (Nat.xor_lt_two_pow (mask_lt _ _) ih.1) (tog_lt own ih.2)⟩

theorem shift_lt {c r x : Nat} (h : x < 2 ^ c) : x * 2 ^ (c * r) < 2 ^ (c * (r + 1)) := by
  rw [Nat.mul_add, Nat.mul_one, Nat.add_comm, Nat.pow_add]
  exact Nat.mul_lt_mul_of_pos_right h (Nat.two_pow_pos _)

theorem prs_lt {c : Nat} (own : Bool) (L : Nat) {first : Nat} (h : first < 2 ^ c) : ∀ r, prs c own L first r < 2 ^ (c * r)
  | 0 => by show 0 < _; exact Nat.two_pow_pos _
  | r + 1 => by
    refine Nat.or_lt_two_pow ?_ (shift_lt (cr_lt own L h r).2)
    exact Nat.lt_of_lt_of_le (prs_lt own L h r) (Nat.pow_le_pow_right (by decide) (Nat.mul_le_mul_left _ (by omega)))

/-- The first rows that leave no lights. -/
def firsts (rows c : Nat) (own : Bool) (L : Nat) : List Nat := (List.range (2 ^ c)).filter fun f => (cr c own L f rows).2 = 0

end Go.Proofs.YteabfdcobkgmmaaDoor.Row
