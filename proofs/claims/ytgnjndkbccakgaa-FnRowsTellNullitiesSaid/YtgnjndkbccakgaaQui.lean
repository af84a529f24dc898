/- The quiet rows of a pattern: rows behind a zero go back, so that zeros come at all multiples of one number. No program here. -/
import Derived.Test.YtgnjndkbccakgaaCha
namespace Go.Proofs.Ytgnjndkbccakgaa.Qui
open Go.Proofs.Ytgnjndkbccakgaa.Lin Go.Proofs.Ytgnjndkbccakgaa.Ker Go.Proofs.Ytgnjndkbccakgaa.Row Go.Proofs.Ytgnjndkbccakgaa.Cnt Go.Proofs.Ytgnjndkbccakgaa.Cha

section
variable {c : Nat} {own : Bool} {f : Nat}
/-- The pattern, with the zero ahead of it. -/
def qq (c : Nat) (own : Bool) (f : Nat) : Nat → Nat
  | 0 => 0
  | k + 1 => (cr c own 0 f k).2
theorem qq_fst (k : Nat) : (cr c own 0 f k).1 = qq c own f k := by cases k <;> rfl
theorem qq_step (k : Nat) : qq c own f (k + 2) = tog c own (qq c own f (k + 1)) ^^^ qq c own f k := by
  show (cr c own 0 f (k + 1)).2 = _
  rw [cr_nx, qq_fst]; rfl
theorem tog_zero : tog c own 0 = 0 := by
  have := tog_xor c own 0 0
  rw [Nat.xor_self, Nat.xor_self] at this
  exact this
theorem xback {a b t : Nat} (h : a = t ^^^ b) : t ^^^ a = b := by rw [h, xxl]
section
variable {D : Nat} (hD : 2 ≤ D) (hz : qq c own f D = 0)
include hD hz
theorem refl_ : ∀ j, j + 1 ≤ D → qq c own f (D + j) = qq c own f (D - j) ∧ qq c own f (D + j + 1) = qq c own f (D - (j + 1)) := by
  intro j
  induction j with
  | zero =>
    intro _
    refine ⟨rfl, ?_⟩
    obtain ⟨e, rfl⟩ : ∃ e, D = e + 1 := ⟨D - 1, by omega⟩
    rw [Nat.add_zero]
    show qq c own f (e + 2) = _
    rw [qq_step, hz, tog_zero, Nat.zero_xor]; rfl
  | succ j ih =>
    intro hj
    obtain ⟨h1, h2⟩ := ih (by omega)
    refine ⟨by rw [← Nat.add_assoc]; exact h2, ?_⟩
    have e1 : qq c own f (D + (j + 1) + 1) = tog c own (qq c own f (D + j + 1)) ^^^ qq c own f (D + j) := qq_step (D + j)
    have e2 := qq_step (c := c) (own := own) (f := f) (D - (j + 1 + 1))
    rw [show D - (j + 1 + 1) + 2 = D - j by omega, show D - (j + 1 + 1) + 1 = D - (j + 1) by omega] at e2
    rw [e1, h2, h1]
    exact xback e2
theorem per_ : ∀ j, qq c own f (2 * D + j) = qq c own f j ∧ qq c own f (2 * D + j + 1) = qq c own f (j + 1) := by
  have h := refl_ hD hz (D - 1) (by omega)
  rw [show D + (D - 1) = 2 * D - 1 by omega, show D - (D - 1) = 1 by omega, show 2 * D - 1 + 1 = 2 * D by omega, show D - (D - 1 + 1) = 0 by omega] at h
  intro j
  induction j with
  | zero =>
    refine ⟨h.2, ?_⟩
    have e := qq_step (c := c) (own := own) (f := f) (2 * D - 1)
    rw [show 2 * D - 1 + 2 = 2 * D + 0 + 1 by omega, show 2 * D - 1 + 1 = 2 * D by omega, h.2, h.1] at e
    rw [e]
    show tog c own 0 ^^^ _ = _
    rw [tog_zero, Nat.zero_xor]
  | succ j ih =>
    refine ⟨ih.2, ?_⟩
    have e1 : qq c own f (2 * D + (j + 1) + 1) = tog c own (qq c own f (2 * D + j + 1)) ^^^ qq c own f (2 * D + j) := qq_step (2 * D + j)
    rw [e1, ih.1, ih.2]
    exact (qq_step j).symm
theorem zero_shift (hmin : ∀ k, 1 ≤ k → k < D → qq c own f k ≠ 0) : ∀ k, qq c own f (k + D) = 0 ↔ qq c own f k = 0 := by
  have small : ∀ k, k ≤ D → (qq c own f k = 0 ↔ k = 0 ∨ k = D) := fun k hk => by
    constructor
    · intro h
      rcases Nat.eq_zero_or_pos k with h0 | h0
      · exact .inl h0
      · rcases Nat.lt_or_eq_of_le hk with h1 | h1
        · exact absurd h (hmin k h0 h1)
        · exact .inr h1
    · rintro (rfl | rfl)
      · rfl
      · exact hz
  have mid : ∀ k, k ≤ D → (qq c own f (k + D) = 0 ↔ qq c own f k = 0) := fun k hk => by
    rcases Nat.lt_or_eq_of_le hk with h1 | rfl
    · rw [Nat.add_comm, (refl_ hD hz k (by omega)).1, small _ (by omega), small _ hk]
      omega
    · rw [show k + k = 2 * k + 0 by omega, (per_ hD hz 0).1]
      exact ⟨fun _ => hz, fun _ => rfl⟩
  intro k
  induction k using Nat.strongRecOn with
  | _ k ih =>
    rcases Nat.lt_or_ge k (2 * D) with h | h
    · rcases Nat.lt_or_ge D k with h1 | h1
      · obtain ⟨j, rfl⟩ : ∃ j, k = j + D := ⟨k - D, by omega⟩
        rw [show j + D + D = 2 * D + j by omega, (per_ hD hz j).1, mid j (by omega)]
      · exact mid k h1
    · obtain ⟨j, rfl⟩ : ∃ j, k = 2 * D + j := ⟨k - 2 * D, by omega⟩
      rw [show 2 * D + j + D = 2 * D + (j + D) by omega, (per_ hD hz _).1, (per_ hD hz _).1]
      exact ih j (by omega)
/-- Zeros are the multiples. -/
theorem zero_iff (hmin : ∀ k, 1 ≤ k → k < D → qq c own f k ≠ 0) (k : Nat) : qq c own f k = 0 ↔ k % D = 0 := by
  induction k using Nat.strongRecOn with
  | _ k ih =>
    rcases Nat.lt_or_ge k D with h | h
    · rw [Nat.mod_eq_of_lt h]
      constructor
      · intro h0
        rcases Nat.eq_zero_or_pos k with h1 | h1
        · exact h1
        · exact absurd h0 (hmin k h1 h)
      · rintro rfl; rfl
    · obtain ⟨j, rfl⟩ : ∃ j, k = j + D := ⟨k - D, by omega⟩
      rw [zero_shift hD hz hmin, ih j (by omega), Nat.add_mod_right]
end

/-- The quiet rows below n. -/
def qrl (c : Nat) (own : Bool) (f : Nat) : Nat → List Nat
  | 0 => []
  | k + 1 => if 1 ≤ k ∧ (cr c own 0 f k).2 = 0 then qrl c own f k ++ [k] else qrl c own f k
theorem qrl_none (n : Nat) (h : ∀ k, 1 ≤ k → k < n → (cr c own 0 f k).2 ≠ 0) : qrl c own f n = [] := by
  induction n with
  | zero => rfl
  | succ n ih =>
    unfold qrl
    rw [if_neg fun e => h n e.1 (Nat.lt_succ_self n) e.2]
    exact ih fun k h1 h2 => h k h1 (by omega)
theorem qrl_mult {D : Nat} (hD : 2 ≤ D) (hz : ∀ k, qq c own f k = 0 ↔ k % D = 0) : ∀ n, qrl c own f n = (List.range (n / D)).map fun i => (i + 1) * D - 1 := by
  intro n
  induction n with
  | zero => rw [Nat.zero_div]; rfl
  | succ n ih =>
    unfold qrl
    have h := hz (n + 1)
    have h' : (cr c own 0 f n).2 = 0 ↔ (n + 1) % D = 0 := h
    have hm := Nat.div_add_mod (n + 1) D
    have hm2 := Nat.div_add_mod n D
    have hl := Nat.mod_lt n (show 0 < D by omega)
    by_cases h0 : (n + 1) % D = 0
    · have hn : 1 ≤ n := by
        rcases Nat.eq_zero_or_pos n with rfl | h1
        · rw [Nat.mod_eq_of_lt (by omega)] at h0; omega
        · exact h1
      have hq : (n + 1) / D = n / D + 1 := by
        rw [Nat.succ_div_of_mod_eq_zero h0]
      rw [if_pos ⟨hn, h'.2 h0⟩, hq, List.range_succ, List.map_append, ih]
      congr 1
      show [n] = [(n / D + 1) * D - 1]
      rw [← hq, Nat.mul_comm]
      congr 1
      omega
    · have hq : (n + 1) / D = n / D := Nat.succ_div_of_mod_ne_zero h0
      rw [if_neg fun e => h0 (h'.1 e.2), hq, ih]
/-- Either no row below n is quiet, or they are the multiples of one number, less one. -/
theorem qrl_all (hf0 : f ≠ 0) (n : Nat) : qrl c own f n = [] ∨ ∃ D, 2 ≤ D ∧ (∀ k, (cr c own 0 f k).2 = 0 ↔ (k + 1) % D = 0) ∧ qrl c own f n = (List.range (n / D)).map fun i => (i + 1) * D - 1 := by
  by_cases h : ∃ k, 1 ≤ k ∧ k < n ∧ (cr c own 0 f k).2 = 0
  · obtain ⟨k, hk, hn, h0⟩ := h
    have ex : ∃ d, qq c own f (d + 2) = 0 := ⟨k - 1, by rw [show k - 1 + 2 = k + 1 by omega]; exact h0⟩
    have hmin : ∃ d, qq c own f (d + 2) = 0 ∧ ∀ j, j < d → qq c own f (j + 2) ≠ 0 := by
      obtain ⟨d, hd⟩ := ex
      induction d using Nat.strongRecOn with
      | _ d ih =>
        by_cases he : ∃ j, j < d ∧ qq c own f (j + 2) = 0
        · obtain ⟨j, hj, hj0⟩ := he
          exact ih j hj hj0
        · exact ⟨d, hd, fun j hj hj0 => he ⟨j, hj, hj0⟩⟩
    obtain ⟨d, hd, hmn⟩ := hmin
    have hz := zero_iff (D := d + 2) (by omega) hd (fun k h1 h2 h3 => by
      rcases Nat.lt_or_ge k 2 with h4 | h4
      · obtain rfl : k = 1 := by omega
        exact hf0 h3
      · exact hmn (k - 2) (by omega) (by rw [show k - 2 + 2 = k by omega]; exact h3))
    exact .inr ⟨d + 2, by omega, fun k => hz (k + 1), qrl_mult (by omega) hz n⟩
  · exact .inl (qrl_none n fun k h1 h2 h3 => h ⟨k, h1, h2, h3⟩)
theorem cnt_one {p : Nat → Bool} {a : Nat} (ha : p a = true) : ∀ n, a < n → 1 ≤ cntB p n
  | 0, h => absurd h (Nat.not_lt_zero _)
  | n + 1, h => by
    show 1 ≤ cntB p n + _
    rcases Nat.lt_or_ge a n with h1 | h1
    · have := cnt_one ha n h1; omega
    · obtain rfl : a = n := by omega
      rw [if_pos ha]; omega
theorem cnt_two {p : Nat → Bool} {a b : Nat} (ha : p a = true) (hb : p b = true) (hab : a < b) : ∀ n, b < n → 2 ≤ cntB p n
  | 0, h => absurd h (Nat.not_lt_zero _)
  | n + 1, h => by
    show 2 ≤ cntB p n + _
    rcases Nat.lt_or_ge b n with h1 | h1
    · have := cnt_two ha hb hab n h1; omega
    · obtain rfl : b = n := by omega
      have := cnt_one ha b hab
      rw [if_pos hb]; omega
/-- A first row that leaves nothing tells a nullity of at least 1. -/
theorem null_pos (rows : Nat) (hf : f < 2 ^ c) (hf0 : f ≠ 0) (h : (cr c own 0 f rows).2 = 0) : 1 ≤ c - (img (rws c own rows)).length := by
  obtain ⟨h1, h2⟩ := cnt_rows c own rows
  have h0 : (cr c own 0 0 rows).2 = 0 := by
    have := (cr_xor c own 0 0 rows).2
    rw [Nat.xor_self, Nat.xor_self] at this
    exact this
  have h3 := cnt_two (p := fun x => (cr c own 0 x rows).2 == 0) (a := 0) (b := f) (beq_iff_eq.2 h0) (beq_iff_eq.2 h) (by omega) (2 ^ c) hf
  rw [h1] at h3
  rcases Nat.eq_zero_or_pos (c - (img (rws c own rows)).length) with h4 | h4
  · rw [h4] at h3; exact absurd h3 (by decide)
  · exact h4
end
end Go.Proofs.Ytgnjndkbccakgaa.Qui
