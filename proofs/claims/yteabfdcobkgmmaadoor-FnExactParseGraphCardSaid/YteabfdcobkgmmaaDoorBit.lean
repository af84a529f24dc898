/- The printed operations on whole numbers, at natural numbers below 2^63: what they come to in Nat's own words. -/
import Derived.Test.YteabfdcobkgmmaaDoorWWords
import Derived.Test.YteabfdcobkgmmaaDoorWMore
import Derived.Laws.BitsLemmas
namespace Go.Proofs.YteabfdcobkgmmaaDoor.Bit
open Go.RowKit Go.Proofs.YteabfdcobkgmmaaDoorW.PrintWords

/-- A step of a printed function; said so that it is no step of the kernel's own reckoning. -/
theorem bs {α β : Type} (a : α) (f : α → Option β) : (some a).bind f = f a := of_eq_true (eq_true rfl)
theorem ift {α : Type} (a b : α) : (if true = true then a else b) = a := of_eq_true (eq_true rfl)
theorem iff_ {α : Type} (a b : α) : (if false = true then a else b) = b := of_eq_true (eq_true rfl)

theorem wrapn (n : Nat) (h : n < 2 ^ 63) : wrap64 (n : Int) = n := by unfold wrap64; omega
theorem wrapi {n : Int} (h0 : 0 ≤ n) (h : n < 2 ^ 63) : wrap64 n = n := by unfold wrap64; omega
theorem wrap64_eq (n : Int) : IntKind.i64.wrap n = wrap64 n := by rw [IntKind.wrap_i64]; unfold wrap64; omega

theorem wraps_i64 (n : Int) (h₀ : 0 ≤ n) (h₁ : n < 2 ^ 63) : IntKind.i64.wrap n = n := by rw [IntKind.wrap_i64]; omega

theorem andn (a b : Nat) (ha : a < 2 ^ 63) (hb : b < 2 ^ 63) : Go.bits .and .i64 (a : Int) (b : Int) = ((a &&& b : Nat) : Int) :=
  (bits_nat .i64 63 (by decide) wraps_i64 a b ha hb).1
theorem orn (a b : Nat) (ha : a < 2 ^ 63) (hb : b < 2 ^ 63) : Go.bits .or .i64 (a : Int) (b : Int) = ((a ||| b : Nat) : Int) :=
  (bits_nat .i64 63 (by decide) wraps_i64 a b ha hb).2
theorem xor_nat (k : IntKind) (j : Nat) (hj : j ≤ k.bits) (hk : ∀ n : Int, 0 ≤ n → n < 2 ^ j → k.wrap n = n) (a b : Nat) (ha : a < 2 ^ j) (hb : b < 2 ^ j) :
    Go.bits .xor k a b = ((a ^^^ b : Nat) : Int) := by
  have hp : 2 ^ j ≤ 2 ^ k.bits := Nat.pow_le_pow_right (by decide) hj
  have ha' : a % 2 ^ k.bits = a := Nat.mod_eq_of_lt (Nat.lt_of_lt_of_le ha hp)
  have hb' : b % 2 ^ k.bits = b := Nat.mod_eq_of_lt (Nat.lt_of_lt_of_le hb hp)
  simp only [bits, BitVec.ofInt_natCast, BitVec.toNat_xor, BitVec.toNat_ofNat, ha', hb']
  exact hk _ (Int.natCast_nonneg _) (by exact_mod_cast Nat.xor_lt_two_pow ha hb)
theorem xorn (a b : Nat) (ha : a < 2 ^ 63) (hb : b < 2 ^ 63) : Go.bits .xor .i64 (a : Int) (b : Int) = ((a ^^^ b : Nat) : Int) :=
  xor_nat .i64 63 (by decide) wraps_i64 a b ha hb
theorem andNot_bits (m a b : Nat) (ha : a < 2 ^ m) (hb : b < 2 ^ m) : a &&& (2 ^ m - 1 - b) = a ^^^ (a &&& b) := by
  apply Nat.eq_of_testBit_eq
  intro i
  simp only [Nat.testBit_and, Nat.testBit_xor]
  by_cases hi : i < m
  · have : (2 ^ m - 1 - b).testBit i = !b.testBit i := by
      have := Nat.testBit_two_pow_sub_succ hb i
      rw [Nat.sub_sub, Nat.add_comm 1 b]
      simpa [hi] using this
    rw [this]
    cases a.testBit i <;> cases b.testBit i <;> rfl
  · have h1 : a.testBit i = false := Nat.testBit_lt_two_pow (Nat.lt_of_lt_of_le ha (Nat.pow_le_pow_right (by decide) (by omega)))
    rw [h1]; rfl
theorem andNot_nat (k : IntKind) (j : Nat) (hj : j ≤ k.bits) (hk : ∀ n : Int, 0 ≤ n → n < 2 ^ j → k.wrap n = n) (a b : Nat) (ha : a < 2 ^ j) (hb : b < 2 ^ j) :
    Go.bits .andNot k a b = ((a ^^^ (a &&& b) : Nat) : Int) := by
  have hp : 2 ^ j ≤ 2 ^ k.bits := Nat.pow_le_pow_right (by decide) hj
  have ha2 := Nat.lt_of_lt_of_le ha hp
  have hb2 := Nat.lt_of_lt_of_le hb hp
  have ha' : a % 2 ^ k.bits = a := Nat.mod_eq_of_lt ha2
  have hb' : b % 2 ^ k.bits = b := Nat.mod_eq_of_lt hb2
  simp only [bits, BitVec.ofInt_natCast, BitVec.toNat_and, BitVec.toNat_not, BitVec.toNat_ofNat, ha', hb']
  rw [andNot_bits _ _ _ ha2 hb2]
  exact hk _ (Int.natCast_nonneg _) (by exact_mod_cast Nat.xor_lt_two_pow ha (Nat.and_lt_two_pow a hb))
/-- and-not: the bits of a that are not in b. -/
theorem andNotn (a b : Nat) (ha : a < 2 ^ 63) (hb : b < 2 ^ 63) : Go.bits .andNot .i64 (a : Int) (b : Int) = ((a ^^^ (a &&& b) : Nat) : Int) :=
  andNot_nat .i64 63 (by decide) wraps_i64 a b ha hb

theorem shln (x y : Nat) (h : x * 2 ^ y < 2 ^ 63) (hy : y < 64) : shl .i64 (x : Int) (y : Int) = ((x * 2 ^ y : Nat) : Int) := by
  have e : ((x : Int) * 2 ^ y) = ((x * 2 ^ y : Nat) : Int) := by push_cast; rfl
  unfold shl
  rw [Int.toNat_natCast, show min y IntKind.i64.bits = y from Nat.min_eq_left (by show y ≤ 64; omega), wrap64_eq, e]
  exact wrapn _ h
theorem shl1 (y : Nat) (hy : y < 63) : shl .i64 1 (y : Int) = ((2 ^ y : Nat) : Int) := by
  have := shln 1 y (by rw [Nat.one_mul]; exact Nat.pow_lt_pow_right (by decide) hy) (by omega)
  rw [Nat.one_mul] at this; exact this
theorem shrn (x y : Nat) (hx : x < 2 ^ 63) : shr .i64 (x : Int) (y : Int) = ((x / 2 ^ y : Nat) : Int) := by
  unfold shr
  rw [Int.toNat_natCast]
  rcases Nat.lt_or_ge 64 y with h | h
  · have e : min y IntKind.i64.bits = 64 := Nat.min_eq_right (by show 64 ≤ y; omega)
    have h1 : x / 2 ^ y = 0 := Nat.div_eq_of_lt (Nat.lt_of_lt_of_le hx (Nat.pow_le_pow_right (by decide) (by omega)))
    have h2 : x / 2 ^ 64 = 0 := Nat.div_eq_of_lt (Nat.lt_of_lt_of_le hx (Nat.pow_le_pow_right (by decide) (by omega)))
    rw [e, h1, ← h2]
    norm_cast
  · rw [show min y IntKind.i64.bits = y from Nat.min_eq_left h]
    norm_cast

theorem half (x : Nat) : (x : Int) / 2 = ((x / 2 : Nat) : Int) := by norm_cast
theorem twice (x : Nat) (h : x < 2 ^ 62) : wrap64 ((x : Int) * 2) = ((x * 2 : Nat) : Int) := by
  rw [show (x : Int) * 2 = ((x * 2 : Nat) : Int) by push_cast; rfl]
  exact wrapn _ (by omega)
theorem pow63 {y : Nat} (h : y < 63) : 2 ^ y < 2 ^ 63 := Nat.pow_lt_pow_right (by decide) h
theorem wholen (y : Nat) (hy : y < 63) : wrap64 (shl .i64 1 (y : Int) - 1) = ((2 ^ y - 1 : Nat) : Int) := by
  have h1 := pow63 hy
  have h0 := Nat.two_pow_pos y
  rw [shl1 y hy, show ((2 ^ y : Nat) : Int) - 1 = ((2 ^ y - 1 : Nat) : Int) from by omega]
  exact wrapn _ (by omega)

/-- A list of natural numbers, as whole numbers. -/
def zs (l : List Nat) : List Int := l.map Int.ofNat
theorem zs_length (l : List Nat) : (zs l).length = l.length := by simp [zs]
theorem zs_append (l m : List Nat) : zs (l ++ m) = zs l ++ zs m := by simp [zs]
theorem zs_one (x : Nat) : zs [x] = [(x : Int)] := rfl
theorem rd_zs (l : List Nat) (i : Nat) : rd (zs l) (i : Int) = ((l.getD i 0 : Nat) : Int) := by
  unfold rd zs
  rw [Int.toNat_natCast, List.getD_eq_getElem?_getD, List.getD_eq_getElem?_getD, List.getElem?_map]
  cases l[i]? <;> rfl
theorem zs_inj {l m : List Nat} (h : zs l = zs m) : l = m :=
  (List.map_inj_right (f := Int.ofNat) (fun _ _ e => Int.ofNat.inj e)).1 h
/-- A list of whole numbers none of which is negative. -/
theorem zs_of {l : List Int} (h : ∀ x ∈ l, 0 ≤ x) : zs (l.map Int.toNat) = l := by
  unfold zs
  rw [List.map_map]
  conv => rhs; rw [← List.map_id l]
  apply List.map_congr_left
  intro x hx
  have := h x hx
  simp; omega

end Go.Proofs.YteabfdcobkgmmaaDoor.Bit
