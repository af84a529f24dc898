/- Plain words on graphs: a list of sets of neighbours is a graph's; what a button toggles, what presses do. Natural numbers alone: no program here. -/
import Derived.Test.YteabfdcobkgmmaaDoorLin
import Derived.Test.YteabfdcobkgmmaaDoorBit
namespace Go.Proofs.YteabfdcobkgmmaaDoor.Gra
open Go.RowKit Go.Proofs.YteabfdcobkgmmaaDoor.Lin Go.Proofs.YteabfdcobkgmmaaDoor.Bit Go.Proofs.YteabfdcobkgmmaaDoorW.PrintWords

/-- The i-th of some sets. -/
def nth (m : List Nat) (i : Nat) : Nat := m.getD i 0
/-- A graph: 1 to 16 buttons, sets of these, none its own neighbour, neighbours both ways. -/
structure Good (m : List Nat) : Prop where
  pos : 1 ≤ m.length
  le : m.length ≤ 16
  lt : ∀ i, i < m.length → nth m i < 2 ^ m.length
  sym : ∀ i j, i < m.length → j < m.length → (nth m i).testBit j = true → i ≠ j ∧ (nth m j).testBit i = true
/-- A list of whole numbers is a graph's. -/
def IsG (l : List Int) : Prop := ∃ m, l = zs m ∧ Good m

theorem nth_mem {m : List Nat} {i : Nat} (h : i < m.length) : nth m i ∈ m := by
  unfold nth
  rw [List.getD_eq_getElem?_getD, List.getElem?_eq_getElem h]; exact List.getElem_mem h
theorem Good.all {m : List Nat} (h : Good m) : ∀ x ∈ m, x < 2 ^ m.length := by
  intro x hx
  obtain ⟨i, hi, rfl⟩ := List.mem_iff_getElem.1 hx
  have := h.lt i hi
  unfold nth at this
  rwa [List.getD_eq_getElem?_getD, List.getElem?_eq_getElem hi] at this
theorem Good.lt16 {m : List Nat} (h : Good m) (i : Nat) : nth m i < 2 ^ m.length := by
  rcases Nat.lt_or_ge i m.length with hi | hi
  · exact h.lt i hi
  · unfold nth
    rw [List.getD_eq_getElem?_getD, List.getElem?_eq_none hi]; exact Nat.two_pow_pos _
theorem Good.bound {m : List Nat} (h : Good m) (i : Nat) : nth m i < 2 ^ 16 :=
  Nat.lt_of_lt_of_le (h.lt16 i) (Nat.pow_le_pow_right (by decide) h.le)
theorem rd_nth (m : List Nat) (i : Nat) : rd (zs m) (i : Int) = ((nth m i : Nat) : Int) := rd_zs m i

/-- The same, as the program asks: no button its own neighbour, and each with the elder ones both ways. -/
theorem sym_iff {m : List Nat} : (∀ i j, i < m.length → j < m.length → (nth m i).testBit j = true → i ≠ j ∧ (nth m j).testBit i = true) ↔
    ∀ i, i < m.length → (nth m i).testBit i = false ∧ ∀ j, j < i → (nth m i).testBit j = (nth m j).testBit i := by
  constructor
  · intro h i hi
    refine ⟨?_, fun j hj => ?_⟩
    · cases hb : (nth m i).testBit i with
      | false => rfl
      | true => exact absurd rfl (h i i hi hi hb).1
    · cases hb : (nth m i).testBit j with
      | true => exact (h i j hi (by omega) hb).2.symm
      | false =>
        cases hc : (nth m j).testBit i with
        | false => rfl
        | true => rw [(h j i (by omega) hi hc).2] at hb; cases hb
  · intro h i j hi hj hb
    rcases Nat.lt_trichotomy i j with hl | rfl | hl
    · exact ⟨by omega, by rw [(h j hj).2 i hl]; exact hb⟩
    · rw [(h i hi).1] at hb; cases hb
    · exact ⟨by omega, by rw [← (h i hi).2 j hl]; exact hb⟩

/-- The question whether a list is a graph's, as a reckoning. -/
def goodB (l : List Int) : Bool := decide (1 ≤ l.length) && decide (l.length ≤ 16) && (l.all fun x => decide (0 ≤ x) && decide (x ≤ ((2 ^ l.length - 1 : Nat) : Int))) &&
  (List.range l.length).all fun i => (List.range l.length).all fun j => !(nth (l.map Int.toNat) i).testBit j || (decide (i ≠ j) && (nth (l.map Int.toNat) j).testBit i)

/-- A row of the table of neighbours, as the reference asks. -/
def rowOk (m : List Nat) (i : Nat) : Prop := ∀ j, j < m.length → (nth m i).testBit j = true → i ≠ j ∧ (nth m j).testBit i = true

theorem goodB_iff (l : List Int) : goodB l = true ↔ (1 ≤ l.length ∧ l.length ≤ 16) ∧ (∀ x ∈ l, 0 ≤ x ∧ x ≤ ((2 ^ l.length - 1 : Nat) : Int)) ∧ ∀ i, i < l.length → rowOk (l.map Int.toNat) i := by
  unfold goodB rowOk
  simp only [Bool.and_eq_true, decide_eq_true_eq, List.all_eq_true, List.mem_range, Bool.or_eq_true, Bool.not_eq_true', List.length_map, and_assoc]
  constructor
  · rintro ⟨h1, h2, h3, h4⟩
    refine ⟨h1, h2, h3, fun i hi j hj t => ?_⟩
    rcases h4 i hi j hj with h | h
    · rw [h] at t; cases t
    · exact h
  · rintro ⟨h1, h2, h3, h4⟩
    refine ⟨h1, h2, h3, fun i hi j hj => ?_⟩
    cases t : (nth (l.map Int.toNat) i).testBit j with
    | false => exact .inl rfl
    | true => exact .inr (h4 i hi j hj t)

theorem map_nth (l : List Int) (h : ∀ x ∈ l, 0 ≤ x ∧ x ≤ ((2 ^ l.length - 1 : Nat) : Int)) (i : Nat) : nth (l.map Int.toNat) i < 2 ^ l.length := by
  have hq := Nat.two_pow_pos l.length
  rcases Nat.lt_or_ge i (l.map Int.toNat).length with hi | hi
  · obtain ⟨x, hx, e⟩ := List.mem_map.1 (nth_mem hi)
    have := h x hx
    omega
  · unfold nth
    rw [List.getD_eq_getElem?_getD, List.getElem?_eq_none hi]; exact hq

theorem goodB_isG (l : List Int) : goodB l = true ↔ IsG l := by
  rw [goodB_iff]
  constructor
  · rintro ⟨h1, h2, h3⟩
    have hlen : (l.map Int.toNat).length = l.length := List.length_map ..
    refine ⟨_, (zs_of fun x hx => (h2 x hx).1).symm, by omega, by omega, fun i _ => by rw [hlen]; exact map_nth l h2 i, fun i j hi hj => h3 i (by omega) j hj⟩
  · rintro ⟨m, rfl, hg⟩
    have hq := Nat.two_pow_pos m.length
    have e : (zs m).map Int.toNat = m := by simp [zs, List.map_map, Function.comp_def]
    rw [zs_length, e]
    refine ⟨⟨hg.pos, hg.le⟩, fun x hx => ?_, fun i hi j hj => hg.sym i j hi hj⟩
    obtain ⟨y, hy, rfl⟩ := List.mem_map.1 hx
    have := hg.all y hy
    exact ⟨Int.natCast_nonneg _, by show (y : Int) ≤ _; omega⟩

/-- A list's i-th number is a set of n buttons. -/
def inR (l : List Int) (i : Nat) : Prop := 0 ≤ rd l (i : Int) ∧ rd l (i : Int) ≤ ((2 ^ l.length - 1 : Nat) : Int)
theorem rd_map (l : List Int) (i : Nat) (h : 0 ≤ rd l (i : Int)) : rd l (i : Int) = ((nth (l.map Int.toNat) i : Nat) : Int) := by
  unfold nth
  unfold rd at h ⊢
  rw [Int.toNat_natCast, List.getD_eq_getElem?_getD] at h ⊢
  rw [List.getD_eq_getElem?_getD, List.getElem?_map]
  cases hl : l[i]? with
  | none => rfl
  | some x =>
    rw [hl] at h
    show x = ((x.toNat : Nat) : Int)
    have : 0 ≤ x := h
    omega
theorem all_inR (l : List Int) : (∀ x ∈ l, 0 ≤ x ∧ x ≤ ((2 ^ l.length - 1 : Nat) : Int)) ↔ ∀ i, i < l.length → inR l i := by
  have key : ∀ i (hi : i < l.length), rd l (i : Int) = l[i] := fun i hi => by
    unfold rd
    rw [Int.toNat_natCast, List.getD_eq_getElem?_getD, List.getElem?_eq_getElem hi]; rfl
  constructor
  · intro h i hi
    unfold inR
    rw [key i hi]
    exact h _ (List.getElem_mem hi)
  · intro h x hx
    obtain ⟨i, hi, rfl⟩ := List.mem_iff_getElem.1 hx
    have := h i hi
    unfold inR at this
    rwa [key i hi] at this
/-- A row, as the program asks. -/
def rowP (l : List Int) (i : Nat) : Prop := inR l i ∧ (nth (l.map Int.toNat) i).testBit i = false ∧ ∀ j, j < i → (nth (l.map Int.toNat) i).testBit j = (nth (l.map Int.toNat) j).testBit i
theorem goodB_rows (l : List Int) : goodB l = true ↔ (1 ≤ l.length ∧ l.length ≤ 16) ∧ ∀ i, i < l.length → rowP l i := by
  rw [goodB_iff, all_inR]
  have hlen : (l.map Int.toNat).length = l.length := List.length_map ..
  have hs := sym_iff (m := l.map Int.toNat)
  constructor
  · rintro ⟨h1, h2, h3⟩
    have h4 := hs.1 fun i j hi hj => h3 i (by omega) j hj
    exact ⟨h1, fun i hi => ⟨h2 i hi, h4 i (by omega)⟩⟩
  · rintro ⟨h1, h2⟩
    have h4 := hs.2 fun i hi => (h2 i (by omega)).2
    exact ⟨h1, fun i hi => (h2 i hi).1, fun i hi j hj => h4 i j (by omega) hj⟩

/-- 2^62, behind a name. -/
def two62 : Int := 4611686018427387904
/-- The greatest element of a set, or -1. -/
def topI (n : Nat) : Int := if n = 0 then -1 else (n.log2 : Int)

end Go.Proofs.YteabfdcobkgmmaaDoor.Gra
