/- All sums of a basis, made in the basis's order, rise. No program here. -/
import Derived.Test.YthjbccbaobkobaaKer
namespace Go.Proofs.Ythjbccbaobkobaa.Pat
open Go.Proofs.Ythjbccbaobkobaa.Lin Go.Proofs.Ythjbccbaobkobaa.Ker

/-- All sums, in the order in which they are made. -/
def sums (B : List Nat) : List Nat := B.foldl (fun out b => out ++ out.map (· ^^^ b)) [0]
theorem sums_snoc (B : List Nat) (b : Nat) : sums (B ++ [b]) = sums B ++ (sums B).map (· ^^^ b) := by simp [sums]
theorem sums_len (B : List Nat) : (sums B).length = 2 ^ B.length := by
  have h : ∀ k, k ≤ B.length → (sums (B.take k)).length = 2 ^ k := by
    intro k
    induction k with
    | zero => intro _; rw [List.take_zero]; rfl
    | succ k ih =>
      intro hk
      rw [List.take_succ_eq_append_getElem (by omega), sums_snoc, List.length_append, List.length_map, ih (by omega), Nat.pow_succ]
      omega
  have := h B.length (Nat.le_refl _)
  rwa [List.take_length] at this
theorem lt_tb {x y i : Nat} (hx : x.testBit i = false) (hy : y.testBit i = true) (h : ∀ j, i < j → x.testBit j = y.testBit j) : x < y := by
  have e : x / 2 ^ (i + 1) = y / 2 ^ (i + 1) := Nat.eq_of_testBit_eq fun j => by
    rw [Nat.testBit_div_two_pow, Nat.testBit_div_two_pow]; exact h _ (by omega)
  have hx1 : x % 2 ^ (i + 1) < 2 ^ i := no_bit (Nat.mod_lt _ (Nat.two_pow_pos _)) (by rw [Nat.testBit_mod_two_pow, hx, Bool.and_false])
  have hy1 : 2 ^ i ≤ y % 2 ^ (i + 1) := Nat.ge_two_pow_of_testBit (by rw [Nat.testBit_mod_two_pow, hy, Bool.and_true]; simp)
  calc x = 2 ^ (i + 1) * (x / 2 ^ (i + 1)) + x % 2 ^ (i + 1) := (Nat.div_add_mod ..).symm
    _ = 2 ^ (i + 1) * (y / 2 ^ (i + 1)) + x % 2 ^ (i + 1) := by rw [e]
    _ < 2 ^ (i + 1) * (y / 2 ^ (i + 1)) + y % 2 ^ (i + 1) := Nat.add_lt_add_left (Nat.lt_of_lt_of_le hx1 hy1) _
    _ = y := Nat.div_add_mod ..
theorem lt_bit {x y : Nat} (h : x < y) : x.testBit (x ^^^ y).log2 = false ∧ y.testBit (x ^^^ y).log2 = true ∧ ∀ j, (x ^^^ y).log2 < j → x.testBit j = y.testBit j := by
  have hne : x ^^^ y ≠ 0 := fun e => by have := xeq e; omega
  have ht := top_bit hne
  have hab : ∀ j, (x ^^^ y).log2 < j → x.testBit j = y.testBit j := fun j hj => by
    have := bit_above hj
    rw [Nat.testBit_xor] at this
    cases hx : x.testBit j <;> cases hy : y.testBit j <;> simp_all
  rw [Nat.testBit_xor] at ht
  cases hx : x.testBit (x ^^^ y).log2 with
  | false =>
    rw [hx, Bool.false_xor] at ht
    exact ⟨rfl, ht, hab⟩
  | true =>
    have hy : y.testBit (x ^^^ y).log2 = false := by
      rw [hx] at ht
      cases h2 : y.testBit (x ^^^ y).log2 with
      | false => rfl
      | true => rw [h2] at ht; cases ht
    have := lt_tb hy hx (fun j hj => (hab j hj).symm)
    omega
theorem xor_mono {x y b : Nat} (h : x < y) (hb : b.testBit (x ^^^ y).log2 = false) : x ^^^ b < y ^^^ b := by
  obtain ⟨h1, h2, h3⟩ := lt_bit h
  refine lt_tb (i := (x ^^^ y).log2) ?_ ?_ fun j hj => ?_
  · rw [Nat.testBit_xor, h1, hb]; rfl
  · rw [Nat.testBit_xor, h2, hb]; rfl
  · rw [Nat.testBit_xor, Nat.testBit_xor, h3 j hj]
theorem sums_sp (B : List Nat) : ∀ x ∈ sums B, Sp B x := by
  have h : ∀ k, k ≤ B.length → ∀ x ∈ sums (B.take k), Sp B x := by
    intro k
    induction k with
    | zero =>
      intro _ x hx
      rw [List.take_zero] at hx
      rw [List.mem_singleton.1 hx]
      exact Sp.zero B
    | succ k ih =>
      intro hk x hx
      rw [List.take_succ_eq_append_getElem (by omega), sums_snoc] at hx
      rcases List.mem_append.1 hx with hx | hx
      · exact ih (by omega) x hx
      · obtain ⟨y, hy, rfl⟩ := List.mem_map.1 hx
        exact (ih (by omega) y hy).add (Sp.mem (List.getElem_mem (by omega)))
  intro x hx
  refine h B.length (Nat.le_refl _) x ?_
  rwa [List.take_length]
theorem IsB.take {B : List Nat} (h : IsB B) (k : Nat) : IsB (B.take k) := ⟨fun b hb => h.ne b (List.mem_of_mem_take hb), h.bef.sublist (List.take_sublist k B)⟩
/-- The sums rise. -/
theorem sums_rise {B : List Nat} (h : IsB B) : (sums B).Pairwise (· < ·) := by
  have hk : ∀ k, k ≤ B.length → (sums (B.take k)).Pairwise (· < ·) := by
    intro k
    induction k with
    | zero => intro _; rw [List.take_zero]; exact List.pairwise_singleton ..
    | succ k ih =>
      intro hk
      have hkl : k < B.length := by omega
      have hbef : ∀ c ∈ B.take k, Bef c B[k] := fun c hc => by
        obtain ⟨j, hj, rfl⟩ := List.getElem_of_mem hc
        rw [List.length_take] at hj
        rw [List.getElem_take]
        exact List.pairwise_iff_getElem.1 h.bef j k (by omega) hkl (by omega)
      have hTB := IsB.take h k
      rw [List.take_succ_eq_append_getElem hkl, sums_snoc, List.pairwise_append]
      refine ⟨ih (by omega), ?_, ?_⟩
      · rw [List.pairwise_map]
        refine (List.pairwise_iff_getElem.1 (ih (by omega)) |> fun hp => List.pairwise_iff_getElem.2 fun i j hi hj hij => ?_)
        have hlt := hp i j hi hj hij
        have hsp := (sums_sp _ _ (List.getElem_mem hi)).add (sums_sp _ _ (List.getElem_mem hj))
        refine xor_mono hlt ?_
        obtain ⟨c, hc, e⟩ := Sp.top hTB.ne hTB.rise hsp (fun e => by have := xeq e; omega)
        rw [← e]
        exact (hbef c hc).2
      · intro x hx y hy
        obtain ⟨z, hz, rfl⟩ := List.mem_map.1 hy
        have hb0 := h.ne _ (List.getElem_mem hkl)
        have hlow : ∀ u ∈ sums (B.take k), u < 2 ^ (B[k]).log2 := fun u hu => Sp.lt (fun c hc => Nat.lt_of_lt_of_le Nat.lt_log2_self (Nat.pow_le_pow_right (by decide) (hbef c hc).1)) (sums_sp _ u hu)
        have hz1 := hlow z hz
        have h1 : (z ^^^ B[k]).testBit (B[k]).log2 = true := by rw [Nat.testBit_xor, Nat.testBit_lt_two_pow hz1, top_bit hb0]; rfl
        have h2 := Nat.ge_two_pow_of_testBit h1
        exact Nat.lt_of_lt_of_le (hlow x hx) h2
  have := hk B.length (Nat.le_refl _)
  rwa [List.take_length] at this
end Go.Proofs.Ythjbccbaobkobaa.Pat
