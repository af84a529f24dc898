/- What a button toggles, what a set of presses comes to. Natural numbers alone: no program here. -/
import Derived.Test.YtgnjndkbccakgaaGra
namespace Go.Proofs.Ytgnjndkbccakgaa.Gra
open Go.RowKit Go.Proofs.Ytgnjndkbccakgaa.Lin Go.Proofs.Ytgnjndkbccakgaa.Bit Go.Proofs.YtgnjndkbccakgaaW.PrintWords

/-- The same word, of a name that clashes with none. -/
abbrev GoodG (m : List Nat) : Prop := Good m
/-- What the button i toggles. -/
def tgl (m : List Nat) (own : Bool) (i : Nat) : Nat := if own then nth m i ||| 2 ^ i else nth m i
/-- What the presses below i of a set come to. -/
def effTo (m : List Nat) (own : Bool) (x : Nat) : Nat → Nat
  | 0 => 0
  | i + 1 => effTo m own x i ^^^ (if x.testBit i then tgl m own i else 0)
def eff (m : List Nat) (own : Bool) (x : Nat) : Nat := effTo m own x m.length

theorem tgl_lt {m : List Nat} (h : Good m) (own : Bool) {i : Nat} (hi : i < m.length) : tgl m own i < 2 ^ m.length := by
  unfold tgl
  have := h.lt i hi
  split
  · exact Nat.or_lt_two_pow this (Nat.pow_lt_pow_right (by decide) hi)
  · exact this
theorem effTo_lt {m : List Nat} (h : Good m) (own : Bool) (x : Nat) : ∀ i, i ≤ m.length → effTo m own x i < 2 ^ m.length
  | 0, _ => Nat.two_pow_pos _
  | i + 1, hi => by
    refine Nat.xor_lt_two_pow (effTo_lt h own x i (by omega)) ?_
    split
    · exact tgl_lt h own (by omega)
    · exact Nat.two_pow_pos _
theorem eff_lt {m : List Nat} (h : Good m) (own : Bool) (x : Nat) : eff m own x < 2 ^ m.length := effTo_lt h own x _ (Nat.le_refl _)
theorem pow16 {m : List Nat} (h : Good m) : 2 ^ m.length ≤ 2 ^ 16 := Nat.pow_le_pow_right (by decide) h.le
/-- A list that is a graph's. -/
theorem good_zs {l : List Int} (h : goodB l = true) : ∃ m, l = zs m ∧ GoodG m := (goodB_isG l).1 h

end Go.Proofs.Ytgnjndkbccakgaa.Gra
