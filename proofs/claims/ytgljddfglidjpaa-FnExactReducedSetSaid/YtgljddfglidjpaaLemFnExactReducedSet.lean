/- Lemmas on the printed functions of FnExactReducedSet: what loops and calls come to, at natural numbers in range. -/
import Derived.Test.YtgljddfglidjpaaPFnExactReducedSetx
import Derived.Test.YtgljddfglidjpaaBit
import Derived.Test.YtgljddfglidjpaaGra
import Derived.Test.YtgljddfglidjpaaKer
import Derived.Test.YtgljddfglidjpaaRow
namespace Go.Proofs.Ytgljddfglidjpaa.LemFnExactReducedSet
open Go.RowKit Go.Proofs.Ytgljddfglidjpaa.PFnExactReducedSet Go.Proofs.YtgljddfglidjpaaW.PrintWords Go.Proofs.YtgljddfglidjpaaW.PrintLast Go.Proofs.Ytgljddfglidjpaa.Bit Go.Proofs.Ytgljddfglidjpaa.Row Go.Proofs.Ytgljddfglidjpaa.Lin Go.Proofs.Ytgljddfglidjpaa.Gra Go.Proofs.Ytgljddfglidjpaa.Ker

theorem eqIntS_l (l : List Int) (hl : l.length < 2 ^ 62) : ∀ n i k, i + n = l.length → n < k → laws_eqIntS.l0 k l l (i : Int) = some true := by
  intro n
  induction n with
  | zero =>
    intro i k hi hk
    obtain ⟨k, rfl⟩ : ∃ m, k = m + 1 := ⟨k - 1, by omega⟩
    rw [laws_eqIntS.l0, if_neg (by omega)]
  | succ n ih =>
    intro i k hi hk
    obtain ⟨k, rfl⟩ : ∃ m, k = m + 1 := ⟨k - 1, by omega⟩
    rw [laws_eqIntS.l0, if_pos (by omega), if_pos (by omega), if_pos (by omega), if_pos rfl, show ((i : Int) + 1) = ((i + 1 : Nat) : Int) from rfl, wrapn _ (by omega)]
    exact ih (i + 1) k (by omega) (by omega)
/-- A list is equal to itself. -/
theorem eqIntS_self (l : List Int) (hl : l.length < 2 ^ 62) (k : Nat) (hk : l.length < k) : laws_eqIntS.f k l l = some true := by
  unfold laws_eqIntS.f
  rw [if_pos rfl]
  exact eqIntS_l l hl l.length 0 k (by omega) hk
theorem whole_f (c : Nat) (h : c < 63) : impl_whole.f (c : Int) = some ((2 ^ c - 1 : Nat) : Int) := by
  unfold impl_whole.f
  rw [if_pos (Int.natCast_nonneg _), wholen c h]
theorem in_f (a b c : Int) : impl_in.f a b c = some (decide (b ≤ a ∧ a ≤ c)) := by
  unfold impl_in.f
  split
  · rename_i h; simp [h]
  · rename_i h; simp [h]
theorem l1In_f (a b c : Int) : spec_l1In.f a b c = some (decide (b ≤ a ∧ a ≤ c)) := by
  unfold spec_l1In.f
  split
  · rename_i h; simp [show b ≤ a from h]
  · rename_i h; simp [show ¬ b ≤ a from h]
theorem has_f (x i : Nat) (hx : x < 2 ^ 63) : impl_has.f (x : Int) (i : Int) = some (x.testBit i) := by
  unfold impl_has.f
  rw [if_pos (Int.natCast_nonneg _), shrn x i hx, show (1 : Int) = ((1 : Nat) : Int) from rfl, andn _ _ (Nat.lt_of_le_of_lt (Nat.div_le_self _ _) hx) (by decide), Nat.and_one_is_mod, Nat.testBit_eq_decide_div_mod_eq]
  congr 1
  rcases Nat.mod_two_eq_zero_or_one (x / 2 ^ i) with h | h <;> rw [h] <;> rfl
theorem grIn_f (x i : Nat) (hx : x < 2 ^ 63) : spec_grIn.f (x : Int) (i : Int) = some (x.testBit i) := by
  unfold spec_grIn.f
  rw [if_pos (Int.natCast_nonneg _), shrn x i hx, Nat.testBit_eq_decide_div_mod_eq]
  congr 1
  have e : Int.tmod ((x / 2 ^ i : Nat) : Int) 2 = ((x / 2 ^ i % 2 : Nat) : Int) := rfl
  rw [e]
  rcases Nat.mod_two_eq_zero_or_one (x / 2 ^ i) with h | h <;> rw [h] <;> rfl
theorem l1All_l (l : List Int) (a b : Int) (hl : l.length < 2 ^ 62) : ∀ n i k, i + n = l.length → n < k → spec_l1All.l0 k a b l (l.length : Int) (i : Int) = some (decide (∀ x ∈ l.drop i, a ≤ x ∧ x ≤ b)) := by
  intro n
  induction n with
  | zero =>
    intro i k hi hk
    obtain ⟨k, rfl⟩ : ∃ m, k = m + 1 := ⟨k - 1, by omega⟩
    rw [spec_l1All.l0, if_neg (by omega), show l.drop i = [] from List.drop_eq_nil_of_le (by omega)]
    simp
  | succ n ih =>
    intro i k hi hk
    obtain ⟨k, rfl⟩ : ∃ m, k = m + 1 := ⟨k - 1, by omega⟩
    have hlt : i < l.length := by omega
    have e : rd l (i : Int) = l[i] := by
      unfold rd
      rw [Int.toNat_natCast, List.getD_eq_getElem?_getD, List.getElem?_eq_getElem hlt]; rfl
    rw [spec_l1All.l0, if_pos (by omega), if_pos (by omega), if_pos (by omega), l1In_f, e]
    simp only [bs]
    rw [List.drop_eq_getElem_cons hlt]
    by_cases h : a ≤ l[i] ∧ l[i] ≤ b
    · rw [decide_eq_true h, if_pos rfl, show ((i : Int) + 1) = ((i + 1 : Nat) : Int) from rfl, wrapn _ (by omega), ih (i + 1) k (by omega) (by omega)]
      congr 1
      rw [decide_eq_decide, List.forall_mem_cons]
      exact ⟨fun hh => ⟨h, hh⟩, fun hh => hh.2⟩
    · rw [decide_eq_false h, if_neg (by decide)]
      congr 1
      symm
      rw [decide_eq_false_iff_not]
      exact fun hh => h (hh _ (List.mem_cons_self ..))
theorem l1All_f (l : List Int) (a b : Int) (hl : l.length < 2 ^ 62) (k : Nat) (hk : l.length < k) : spec_l1All.f k l a b = some (decide (∀ x ∈ l, a ≤ x ∧ x ≤ b)) := by
  unfold spec_l1All.f
  exact l1All_l l a b hl l.length 0 k (by omega) hk
theorem toInt_l (l : List Int) (hl : l.length < 2 ^ 40) : ∀ n i k, i + n = l.length → n < k → laws_toIntS.l0 k l (l.take i ++ List.replicate n 0) (i : Int) = some l := by
  intro n
  induction n with
  | zero =>
    intro i k hi hk
    obtain ⟨k, rfl⟩ : ∃ m, k = m + 1 := ⟨k - 1, by omega⟩
    rw [laws_toIntS.l0, if_neg (by omega), List.replicate_zero, List.append_nil, show i = l.length by omega, List.take_length]
  | succ n ih =>
    intro i k hi hk
    obtain ⟨k, rfl⟩ : ∃ m, k = m + 1 := ⟨k - 1, by omega⟩
    have hlt : i < l.length := by omega
    have e : rd l (i : Int) = l[i] := by
      unfold rd
      rw [Int.toNat_natCast, List.getD_eq_getElem?_getD, List.getElem?_eq_getElem hlt]; rfl
    have ht : (l.take i).length = i := by rw [List.length_take]; omega
    rw [laws_toIntS.l0, if_pos (by omega), if_pos (by omega), if_pos (by rw [List.length_append, ht, List.length_replicate]; omega), e, Int.toNat_natCast, List.set_append_right _ _ (by omega), ht, Nat.sub_self, List.replicate_succ, List.set_cons_zero, show ((i : Int) + 1) = ((i + 1 : Nat) : Int) from rfl, wrapn _ (by omega)]
    have := ih (i + 1) k (by omega) (by omega)
    rw [List.take_succ_eq_append_getElem hlt, List.append_assoc] at this
    exact this
/-- The copy that a law makes of a list. -/
theorem toInt_f (l : List Int) (hl : l.length < 2 ^ 40) (k : Nat) (hk : l.length < k) : laws_toIntS.f k l = some l := by
  unfold laws_toIntS.f
  rw [if_pos (Int.natCast_nonneg _), Int.toNat_natCast, if_pos (by omega)]
  exact toInt_l l hl l.length 0 k (by omega) hk
theorem soTop_l : ∀ (d n : Nat) (t : Int) (k : Nat), n < 2 ^ d → d < k → d ≤ 62 → -1 ≤ t → t + (d : Int) ≤ 1000 → spec_soTop.l0 k (n : Int) t = some (t + (topI n + 1)) := by
  intro d
  induction d with
  | zero =>
    intro n t k hn hk _ _ _
    obtain ⟨k, rfl⟩ : ∃ m, k = m + 1 := ⟨k - 1, by omega⟩
    obtain rfl : n = 0 := by simpa using hn
    rw [spec_soTop.l0, if_neg (by omega)]
    unfold topI
    rw [if_pos rfl]
    congr 1; omega
  | succ d ih =>
    intro n t k hn hk hd h0 h1
    obtain ⟨k, rfl⟩ : ∃ m, k = m + 1 := ⟨k - 1, by omega⟩
    have hp : (2 : Nat) ^ (d + 1) ≤ 2 ^ 62 := Nat.pow_le_pow_right (by decide) hd
    by_cases hz : n = 0
    · subst hz
      rw [spec_soTop.l0, if_neg (by omega)]
      unfold topI
      rw [if_pos rfl]
      congr 1; omega
    · rw [spec_soTop.l0, if_pos (by omega), show Int.tdiv (n : Int) 2 = ((n / 2 : Nat) : Int) from rfl, wrapn _ (by omega), wrapi (n := t + 1) (by omega) (by omega), ih (n / 2) (t + 1) k (by rw [Nat.pow_succ] at hn; omega) (by omega) (by omega) (by omega) (by omega)]
      congr 1
      unfold topI
      rw [if_neg hz]
      by_cases h2 : n / 2 = 0
      · rw [if_pos h2]
        have : n = 1 := by omega
        subst this
        rw [show Nat.log2 1 = 0 from rfl]; omega
      · have : n.log2 = (n / 2).log2 + 1 := by rw [Nat.log2_def, if_pos (by omega)]
        rw [if_neg h2, this]; omega
theorem soTop_f (n : Nat) (h : n < 2 ^ 62) (k : Nat) (hk : 62 < k) : spec_soTop.f k (n : Int) = some (topI n) := by
  unfold spec_soTop.f
  rw [soTop_l 62 n (-1) k h hk (by omega) (by omega) (by omega)]
  congr 1; omega
theorem red_snoc (B : List Nat) (b s : Nat) : red (B ++ [b]) s = red B (if s.testBit b.log2 then s ^^^ b else s) := by
  unfold red
  rw [List.foldr_append]
  rfl
theorem topI_pos {b : Nat} (h : 1 ≤ b) : topI b = ((b.log2 : Nat) : Int) := by
  unfold topI
  rw [if_neg (by omega)]
theorem soRed_l (B : List Nat) (hB : ∀ b ∈ B, 1 ≤ b ∧ b < 2 ^ 62) (hl : B.length < 2 ^ 40) : ∀ n s k : Nat, s < 2 ^ 62 → n ≤ B.length → n + 64 < k → spec_soReduce.l0 k (zs B) (s : Int) ((n : Int) - 1) = some ((red (B.take n) s : Nat) : Int) := by
  intro n
  induction n with
  | zero =>
    intro s k hs hn hk
    obtain ⟨k, rfl⟩ : ∃ m, k = m + 1 := ⟨k - 1, by omega⟩
    rw [spec_soReduce.l0, if_neg (by omega)]; rfl
  | succ n ih =>
    intro s k hs hn hk
    obtain ⟨k, rfl⟩ : ∃ m, k = m + 1 := ⟨k - 1, by omega⟩
    have hi : n < B.length := by omega
    obtain ⟨h1, h2⟩ := hB _ (List.getElem_mem hi)
    have ht : B.take (n + 1) = B.take n ++ [B[n]] := List.take_succ_eq_append_getElem hi
    have hw : wrap64 ((n : Int) - 1) = (n : Int) - 1 := by unfold wrap64; omega
    rw [show (((n + 1 : Nat) : Int) - 1) = (n : Int) by omega, spec_soReduce.l0, if_pos (by omega), if_pos (by omega), if_pos (by rw [zs_length]; omega), rd_zs, gD_lt _ _ hi, soTop_f _ h2 k (by omega)]
    simp only [bs]
    rw [topI_pos h1, grIn_f s _ (by omega)]
    simp only [bs]
    rw [hw, ht, red_snoc]
    by_cases hb : s.testBit (B[n]).log2 = true
    · rw [if_pos hb, if_pos hb, xorn _ _ (by omega) (by omega)]
      exact ih _ k (Nat.xor_lt_two_pow hs h2) (by omega) (by omega)
    · rw [if_neg hb, if_neg hb]
      exact ih s k hs (by omega) (by omega)
theorem soRed_f (B : List Nat) (hB : ∀ b ∈ B, 1 ≤ b ∧ b < 2 ^ 62) (hl : B.length < 2 ^ 40) (s k : Nat) (hs : s < 2 ^ 62) (hk : B.length + 64 < k) : spec_soReduce.f k (zs B) (s : Int) = some ((red B s : Nat) : Int) := by
  have hw : wrap64 ((B.length : Int) - 1) = (B.length : Int) - 1 := by unfold wrap64; omega
  unfold spec_soReduce.f
  rw [zs_length, hw, soRed_l B hB hl B.length s k hs (Nat.le_refl _) hk, List.take_length]

end Go.Proofs.Ytgljddfglidjpaa.LemFnExactReducedSet
