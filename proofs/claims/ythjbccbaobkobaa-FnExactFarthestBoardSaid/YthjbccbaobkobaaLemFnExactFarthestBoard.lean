/- Lemmas on the printed functions of FnExactFarthestBoard: what loops and calls come to, at natural numbers in range. -/
import Derived.Test.YthjbccbaobkobaaPFnExactFarthestBoardx
import Derived.Test.YthjbccbaobkobaaBit
import Derived.Test.YthjbccbaobkobaaGra2
import Derived.Test.YthjbccbaobkobaaPop
import Derived.Test.YthjbccbaobkobaaExd
import Derived.Test.YthjbccbaobkobaaPtw
import Derived.Test.YthjbccbaobkobaaEls
import Derived.Test.YthjbccbaobkobaaFar
import Derived.Test.YthjbccbaobkobaaRow
namespace Go.Proofs.Ythjbccbaobkobaa.LemFnExactFarthestBoard
open Go.RowKit Go.Proofs.Ythjbccbaobkobaa.PFnExactFarthestBoard Go.Proofs.YthjbccbaobkobaaW.PrintWords Go.Proofs.YthjbccbaobkobaaW.PrintLast Go.Proofs.Ythjbccbaobkobaa.Bit Go.Proofs.Ythjbccbaobkobaa.Row Go.Proofs.Ythjbccbaobkobaa.Lin Go.Proofs.Ythjbccbaobkobaa.Gra Go.Proofs.Ythjbccbaobkobaa.Pop Go.Proofs.Ythjbccbaobkobaa.Ker Go.Proofs.Ythjbccbaobkobaa.Sol Go.Proofs.Ythjbccbaobkobaa.Sog

theorem eqIntS_l (l : List Int) (hl : l.length < 2 ^ 62) : ∀ n i k, i + n = l.length → n < k → laws_eqIntS.l0 k l l (i : Int) = some true := by
  intro n
  induction n with
  | zero =>
    intro i k hi hk
    obtain ⟨k, rfl⟩ : ∃ m, k = m + 1 := ⟨k - 1, by omega⟩
    rw [laws_eqIntS.l0, if_neg (by omega)]
  | succ n ih =>
    intro i k hi hk
    obtain ⟨k, rfl⟩ : ∃ m, k = m + 1 := ⟨k - 1, by omega⟩
    rw [laws_eqIntS.l0, if_pos (by omega), if_pos (by omega), if_pos (by omega), if_pos rfl, show ((i : Int) + 1) = ((i + 1 : Nat) : Int) from rfl, wrapn _ (by omega)]
    exact ih (i + 1) k (by omega) (by omega)
/-- A list is equal to itself. -/
theorem eqIntS_self (l : List Int) (hl : l.length < 2 ^ 62) (k : Nat) (hk : l.length < k) : laws_eqIntS.f k l l = some true := by
  unfold laws_eqIntS.f
  rw [if_pos rfl]
  exact eqIntS_l l hl l.length 0 k (by omega) hk
theorem l1In_f (a b c : Int) : spec_l1In.f a b c = some (decide (b ≤ a ∧ a ≤ c)) := by
  unfold spec_l1In.f
  split
  · rename_i h; simp [show b ≤ a from h]
  · rename_i h; simp [show ¬ b ≤ a from h]
theorem grIn_f (x i : Nat) (hx : x < 2 ^ 63) : spec_grIn.f (x : Int) (i : Int) = some (x.testBit i) := by
  unfold spec_grIn.f
  rw [if_pos (Int.natCast_nonneg _), shrn x i hx, Nat.testBit_eq_decide_div_mod_eq]
  congr 1
  have e : Int.tmod ((x / 2 ^ i : Nat) : Int) 2 = ((x / 2 ^ i % 2 : Nat) : Int) := rfl
  rw [e]
  rcases Nat.mod_two_eq_zero_or_one (x / 2 ^ i) with h | h <;> rw [h] <;> rfl
theorem l1All_l (l : List Int) (a b : Int) (hl : l.length < 2 ^ 62) : ∀ n i k, i + n = l.length → n < k → spec_l1All.l0 k a b l (l.length : Int) (i : Int) = some (decide (∀ x ∈ l.drop i, a ≤ x ∧ x ≤ b)) := by
  intro n
  induction n with
  | zero =>
    intro i k hi hk
    obtain ⟨k, rfl⟩ : ∃ m, k = m + 1 := ⟨k - 1, by omega⟩
    rw [spec_l1All.l0, if_neg (by omega), show l.drop i = [] from List.drop_eq_nil_of_le (by omega)]
    simp
  | succ n ih =>
    intro i k hi hk
    obtain ⟨k, rfl⟩ : ∃ m, k = m + 1 := ⟨k - 1, by omega⟩
    have hlt : i < l.length := by omega
    have e : rd l (i : Int) = l[i] := by
      unfold rd
      rw [Int.toNat_natCast, List.getD_eq_getElem?_getD, List.getElem?_eq_getElem hlt]; rfl
    rw [spec_l1All.l0, if_pos (by omega), if_pos (by omega), if_pos (by omega), l1In_f, e]
    simp only [bs]
    rw [List.drop_eq_getElem_cons hlt]
    by_cases h : a ≤ l[i] ∧ l[i] ≤ b
    · rw [decide_eq_true h, if_pos rfl, show ((i : Int) + 1) = ((i + 1 : Nat) : Int) from rfl, wrapn _ (by omega), ih (i + 1) k (by omega) (by omega)]
      congr 1
      rw [decide_eq_decide, List.forall_mem_cons]
      exact ⟨fun hh => ⟨h, hh⟩, fun hh => hh.2⟩
    · rw [decide_eq_false h, if_neg (by decide)]
      congr 1
      symm
      rw [decide_eq_false_iff_not]
      exact fun hh => h (hh _ (List.mem_cons_self ..))
theorem l1All_f (l : List Int) (a b : Int) (hl : l.length < 2 ^ 62) (k : Nat) (hk : l.length < k) : spec_l1All.f k l a b = some (decide (∀ x ∈ l, a ≤ x ∧ x ≤ b)) := by
  unfold spec_l1All.f
  exact l1All_l l a b hl l.length 0 k (by omega) hk
theorem toInt_l (l : List Int) (hl : l.length < 2 ^ 40) : ∀ n i k, i + n = l.length → n < k → laws_toIntS.l0 k l (l.take i ++ List.replicate n 0) (i : Int) = some l := by
  intro n
  induction n with
  | zero =>
    intro i k hi hk
    obtain ⟨k, rfl⟩ : ∃ m, k = m + 1 := ⟨k - 1, by omega⟩
    rw [laws_toIntS.l0, if_neg (by omega), List.replicate_zero, List.append_nil, show i = l.length by omega, List.take_length]
  | succ n ih =>
    intro i k hi hk
    obtain ⟨k, rfl⟩ : ∃ m, k = m + 1 := ⟨k - 1, by omega⟩
    have hlt : i < l.length := by omega
    have e : rd l (i : Int) = l[i] := by
      unfold rd
      rw [Int.toNat_natCast, List.getD_eq_getElem?_getD, List.getElem?_eq_getElem hlt]; rfl
    have ht : (l.take i).length = i := by rw [List.length_take]; omega
    rw [laws_toIntS.l0, if_pos (by omega), if_pos (by omega), if_pos (by rw [List.length_append, ht, List.length_replicate]; omega), e, Int.toNat_natCast, List.set_append_right _ _ (by omega), ht, Nat.sub_self, List.replicate_succ, List.set_cons_zero, show ((i : Int) + 1) = ((i + 1 : Nat) : Int) from rfl, wrapn _ (by omega)]
    have := ih (i + 1) k (by omega) (by omega)
    rw [List.take_succ_eq_append_getElem hlt, List.append_assoc] at this
    exact this
/-- The copy that a law makes of a list. -/
theorem toInt_f (l : List Int) (hl : l.length < 2 ^ 40) (k : Nat) (hk : l.length < k) : laws_toIntS.f k l = some l := by
  unfold laws_toIntS.f
  rw [if_pos (Int.natCast_nonneg _), Int.toNat_natCast, if_pos (by omega)]
  exact toInt_l l hl l.length 0 k (by omega) hk
theorem toGraph_f (l : List Int) (own : Bool) (hl : l.length < 2 ^ 40) (k : Nat) (hk : l.length < k) : laws_toGraph.f k l own = some (l, own) := by
  unfold laws_toGraph.f
  rw [toInt_f l hl k hk]
  simp only [bs]
theorem eqGraph_self (l : List Int) (own : Bool) (hl : l.length < 2 ^ 62) (k : Nat) (hk : l.length < k) : laws_eqGraph.f k l own l own = some true := by
  unfold laws_eqGraph.f
  rw [eqIntS_self l hl k hk]
  simp only [bs, if_true, bne_self_eq_false, Bool.false_eq_true, if_false]
theorem szInt_f (l : List Int) (left : Int) (hl : l.length ≤ maxLen) (h0 : 0 ≤ left) (h2 : left ≤ 1048576) : laws_szIntS.f l left = some (if left < (l.length : Int) then -1 else left - (l.length : Int)) := by
  have e : wrap64 (left - (l.length : Int)) = left - (l.length : Int) := by unfold maxLen at hl; unfold wrap64; omega
  unfold laws_szIntS.f
  rw [e]
  by_cases h : left < (l.length : Int)
  · rw [if_pos (by omega), if_pos h]
  · rw [if_neg (by omega), if_neg h]
theorem szGraph_f (l : List Int) (own : Bool) (left : Int) (hl : l.length ≤ maxLen) (h0 : 0 ≤ left) (h2 : left ≤ 1048576) : laws_szGraph.f l own left = some (if left < (l.length : Int) then -1 else left - (l.length : Int)) := by
  unfold laws_szGraph.f
  rw [szInt_f l left hl h0 h2]
  simp only [bs]
  by_cases h : left < (l.length : Int)
  · rw [if_pos h, if_pos (by decide)]
  · rw [if_neg h, if_neg (by omega)]
theorem soTop_l : ∀ (d n : Nat) (t : Int) (k : Nat), n < 2 ^ d → d < k → d ≤ 62 → -1 ≤ t → t + (d : Int) ≤ 1000 → spec_soTop.l0 k (n : Int) t = some (t + (topI n + 1)) := by
  intro d
  induction d with
  | zero =>
    intro n t k hn hk _ _ _
    obtain ⟨k, rfl⟩ : ∃ m, k = m + 1 := ⟨k - 1, by omega⟩
    obtain rfl : n = 0 := by simpa using hn
    rw [spec_soTop.l0, if_neg (by omega)]
    unfold topI
    rw [if_pos rfl]
    congr 1; omega
  | succ d ih =>
    intro n t k hn hk hd h0 h1
    obtain ⟨k, rfl⟩ : ∃ m, k = m + 1 := ⟨k - 1, by omega⟩
    have hp : (2 : Nat) ^ (d + 1) ≤ 2 ^ 62 := Nat.pow_le_pow_right (by decide) hd
    by_cases hz : n = 0
    · subst hz
      rw [spec_soTop.l0, if_neg (by omega)]
      unfold topI
      rw [if_pos rfl]
      congr 1; omega
    · rw [spec_soTop.l0, if_pos (by omega), show Int.tdiv (n : Int) 2 = ((n / 2 : Nat) : Int) from rfl, wrapn _ (by omega), wrapi (n := t + 1) (by omega) (by omega), ih (n / 2) (t + 1) k (by rw [Nat.pow_succ] at hn; omega) (by omega) (by omega) (by omega) (by omega)]
      congr 1
      unfold topI
      rw [if_neg hz]
      by_cases h2 : n / 2 = 0
      · rw [if_pos h2]
        have : n = 1 := by omega
        subst this
        rw [show Nat.log2 1 = 0 from rfl]; omega
      · have : n.log2 = (n / 2).log2 + 1 := by rw [Nat.log2_def, if_pos (by omega)]
        rw [if_neg h2, this]; omega
theorem soTop_f (n : Nat) (h : n < 2 ^ 62) (k : Nat) (hk : 62 < k) : spec_soTop.f k (n : Int) = some (topI n) := by
  unfold spec_soTop.f
  rw [soTop_l 62 n (-1) k h hk (by omega) (by omega) (by omega)]
  congr 1; omega
theorem grTog_f (m : List Nat) (hg : GoodG m) (own : Bool) (i : Nat) (hi : i < m.length) : spec_grToggles.f (zs m) own (i : Int) = some ((tgl m own i : Nat) : Int) := by
  have h1 := hg.bound i
  have h2 := hg.le
  have h3 : 2 ^ i < 2 ^ 63 := pow63 (by omega)
  unfold spec_grToggles.f tgl
  cases own with
  | true => rw [if_pos rfl, if_pos (Int.natCast_nonneg _), if_pos (by rw [zs_length]; omega), rd_nth, shl1 i (by omega), orn _ _ (by omega) h3]; rfl
  | false => rw [if_neg (by decide), if_pos (Int.natCast_nonneg _), if_pos (by rw [zs_length]; omega), rd_nth]; rfl
theorem pop_zero : ∀ d, pop d 0 = 0
  | 0 => rfl
  | d + 1 => by unfold pop; rw [pop_zero d]
theorem grCount_l : ∀ (d n a k : Nat), n < 2 ^ d → d < k → d + a ≤ 1000 → d ≤ 62 → spec_grCount.l0 k (n : Int) (a : Int) = some ((a + pop d n : Nat) : Int) := by
  intro d
  induction d with
  | zero =>
    intro n a k hn hk _ _
    obtain ⟨k, rfl⟩ : ∃ m, k = m + 1 := ⟨k - 1, by omega⟩
    obtain rfl : n = 0 := by simpa using hn
    rw [spec_grCount.l0, if_neg (by omega)]; rfl
  | succ d ih =>
    intro n a k hn hk ha hd
    obtain ⟨k, rfl⟩ : ∃ m, k = m + 1 := ⟨k - 1, by omega⟩
    have hp : (2 : Nat) ^ (d + 1) ≤ 2 ^ 62 := Nat.pow_le_pow_right (by decide) hd
    by_cases hz : n = 0
    · subst hz
      rw [spec_grCount.l0, if_neg (by omega), pop_zero]; rfl
    · rw [spec_grCount.l0, if_pos (by omega), show Int.tdiv (n : Int) 2 = ((n / 2 : Nat) : Int) from rfl, wrapn _ (by omega), show (a : Int) + Int.tmod (n : Int) 2 = ((a + n % 2 : Nat) : Int) from rfl, wrapn _ (by omega), ih (n / 2) (a + n % 2) k (by rw [Nat.pow_succ] at hn; omega) (by omega) (by omega) (by omega)]
      rw [show pop (d + 1) n = n % 2 + pop d (n / 2) from rfl, Nat.add_assoc]
theorem grCount_f (n : Nat) (h : n < 2 ^ 16) (k : Nat) (hk : 16 < k) : spec_grCount.f k (n : Int) = some ((pop 16 n : Nat) : Int) := by
  unfold spec_grCount.f
  have := grCount_l 16 n 0 k h hk (by omega) (by omega)
  rwa [Nat.zero_add] at this
theorem red_snoc (B : List Nat) (b s : Nat) : red (B ++ [b]) s = red B (if s.testBit b.log2 then s ^^^ b else s) := by
  unfold red
  rw [List.foldr_append]
  rfl
theorem topI_pos {b : Nat} (h : 1 ≤ b) : topI b = ((b.log2 : Nat) : Int) := by
  unfold topI
  rw [if_neg (by omega)]
theorem soRed_l (B : List Nat) (hB : ∀ b ∈ B, 1 ≤ b ∧ b < 2 ^ 62) (hl : B.length < 2 ^ 40) : ∀ n s k : Nat, s < 2 ^ 62 → n ≤ B.length → n + 64 < k → spec_soReduce.l0 k (zs B) (s : Int) ((n : Int) - 1) = some ((red (B.take n) s : Nat) : Int) := by
  intro n
  induction n with
  | zero =>
    intro s k hs hn hk
    obtain ⟨k, rfl⟩ : ∃ m, k = m + 1 := ⟨k - 1, by omega⟩
    rw [spec_soReduce.l0, if_neg (by omega)]; rfl
  | succ n ih =>
    intro s k hs hn hk
    obtain ⟨k, rfl⟩ : ∃ m, k = m + 1 := ⟨k - 1, by omega⟩
    have hi : n < B.length := by omega
    obtain ⟨h1, h2⟩ := hB _ (List.getElem_mem hi)
    have ht : B.take (n + 1) = B.take n ++ [B[n]] := List.take_succ_eq_append_getElem hi
    have hw : wrap64 ((n : Int) - 1) = (n : Int) - 1 := by unfold wrap64; omega
    rw [show (((n + 1 : Nat) : Int) - 1) = (n : Int) by omega, spec_soReduce.l0, if_pos (by omega), if_pos (by omega), if_pos (by rw [zs_length]; omega), rd_zs, gD_lt _ _ hi, soTop_f _ h2 k (by omega)]
    simp only [bs]
    rw [topI_pos h1, grIn_f s _ (by omega)]
    simp only [bs]
    rw [hw, ht, red_snoc]
    by_cases hb : s.testBit (B[n]).log2 = true
    · rw [if_pos hb, if_pos hb, xorn _ _ (by omega) (by omega)]
      exact ih _ k (Nat.xor_lt_two_pow hs h2) (by omega) (by omega)
    · rw [if_neg hb, if_neg hb]
      exact ih s k hs (by omega) (by omega)
theorem soRed_f (B : List Nat) (hB : ∀ b ∈ B, 1 ≤ b ∧ b < 2 ^ 62) (hl : B.length < 2 ^ 40) (s k : Nat) (hs : s < 2 ^ 62) (hk : B.length + 64 < k) : spec_soReduce.f k (zs B) (s : Int) = some ((red B s : Nat) : Int) := by
  have hw : wrap64 ((B.length : Int) - 1) = (B.length : Int) - 1 := by unfold wrap64; omega
  unfold spec_soReduce.f
  rw [zs_length, hw, soRed_l B hB hl B.length s k hs (Nat.le_refl _) hk, List.take_length]
theorem soPut_l1 (B : List Nat) (hB : ∀ b ∈ B, 1 ≤ b ∧ b < 2 ^ 62) (hl : B.length < 2 ^ 39) (t : Nat) (ht : t < 2 ^ 62) : ∀ n i k (out : List Nat), i + n = B.length → n + 64 < k → out.length + n < 2 ^ 40 →
    spec_soPut.l1 k (t : Int) ((t.log2 : Nat) : Int) (zs out) (zs B) (B.length : Int) (i : Int) = some (zs (out ++ ((B.drop i).filter (fun b => t.log2 < b.log2)).map (clr t))) := by
  intro n
  induction n with
  | zero =>
    intro i k out hi hk ho
    obtain ⟨k, rfl⟩ : ∃ m, k = m + 1 := ⟨k - 1, by omega⟩
    rw [spec_soPut.l1, if_neg (by omega), List.drop_eq_nil_of_le (by omega)]
    simp
  | succ n ih =>
    intro i k out hi hk ho
    obtain ⟨k, rfl⟩ : ∃ m, k = m + 1 := ⟨k - 1, by omega⟩
    have hib : i < B.length := by omega
    obtain ⟨h1, h2⟩ := hB _ (List.getElem_mem hib)
    have hd : B.drop i = B[i] :: B.drop (i + 1) := List.drop_eq_getElem_cons hib
    rw [spec_soPut.l1, if_pos (by omega), if_pos (by omega), if_pos (by rw [zs_length]; omega), rd_zs, gD_lt _ _ hib, soTop_f _ h2 k (by omega)]
    simp only [bs]
    rw [topI_pos h1, show ((i : Int) + 1) = ((i + 1 : Nat) : Int) from rfl, wrapn _ (by omega), hd]
    by_cases hgt : t.log2 < (B[i]).log2
    · rw [if_pos (by omega), grIn_f _ _ (by omega)]
      simp only [bs]
      rw [List.filter_cons_of_pos (by simpa using hgt), List.map_cons]
      by_cases hb : (B[i]).testBit t.log2 = true
      · have hc : clr t B[i] = B[i] ^^^ t := if_pos hb
        rw [if_pos hb, if_pos (by rw [zs_length]; omega), xorn _ _ (by omega) (by omega), ← zs_one, ← zs_append, ih (i + 1) k _ (by omega) (by omega) (by rw [List.length_append, List.length_singleton]; omega), hc, List.append_assoc]; rfl
      · have hc : clr t B[i] = B[i] := if_neg hb
        rw [if_neg hb, if_pos (by rw [zs_length]; omega), ← zs_one, ← zs_append, ih (i + 1) k _ (by omega) (by omega) (by rw [List.length_append, List.length_singleton]; omega), hc, List.append_assoc]; rfl
    · rw [if_neg (by omega), List.filter_cons_of_neg (by simpa using hgt)]
      exact ih (i + 1) k out (by omega) (by omega) (by omega)
theorem soPut_l0 (B : List Nat) (hB : ∀ b ∈ B, 1 ≤ b ∧ b < 2 ^ 62) (hl : B.length < 2 ^ 39) (t : Nat) (ht : t < 2 ^ 62) : ∀ n i k (out : List Nat), i + n = B.length → n + B.length + 66 < k → out.length + n < 2 ^ 39 →
    spec_soPut.l0 k (zs B) (t : Int) ((t.log2 : Nat) : Int) (zs out) (zs B) (B.length : Int) (i : Int) = some (zs (out ++ (B.drop i).filter (fun b => b.log2 < t.log2) ++ t :: (B.filter (fun b => t.log2 < b.log2)).map (clr t))) := by
  intro n
  induction n with
  | zero =>
    intro i k out hi hk ho
    obtain ⟨k, rfl⟩ : ∃ m, k = m + 1 := ⟨k - 1, by omega⟩
    rw [spec_soPut.l0, if_neg (by omega), if_pos (by rw [zs_length]; omega), zs_length, ← zs_one, ← zs_append, show (0 : Int) = ((0 : Nat) : Int) from rfl, soPut_l1 B hB hl t ht B.length 0 k _ (by omega) (by omega) (by rw [List.length_append, List.length_singleton]; omega), List.drop_zero, List.drop_eq_nil_of_le (by omega)]
    simp
  | succ n ih =>
    intro i k out hi hk ho
    obtain ⟨k, rfl⟩ : ∃ m, k = m + 1 := ⟨k - 1, by omega⟩
    have hib : i < B.length := by omega
    obtain ⟨h1, h2⟩ := hB _ (List.getElem_mem hib)
    have hd : B.drop i = B[i] :: B.drop (i + 1) := List.drop_eq_getElem_cons hib
    rw [spec_soPut.l0, if_pos (by omega), if_pos (by omega), if_pos (by rw [zs_length]; omega), rd_zs, gD_lt _ _ hib, soTop_f _ h2 k (by omega)]
    simp only [bs]
    rw [topI_pos h1, show ((i : Int) + 1) = ((i + 1 : Nat) : Int) from rfl, wrapn _ (by omega), hd]
    by_cases hgt : (B[i]).log2 < t.log2
    · rw [if_pos (by omega), if_pos (by rw [zs_length]; omega), ← zs_one, ← zs_append, ih (i + 1) k _ (by omega) (by omega) (by rw [List.length_append, List.length_singleton]; omega), List.filter_cons_of_pos (by simpa using hgt)]
      simp
    · rw [if_neg (by omega), List.filter_cons_of_neg (by simpa using hgt)]
      exact ih (i + 1) k out (by omega) (by omega) (by omega)
theorem soPut_f (B : List Nat) (hB : IsB B) (hlt : ∀ b ∈ B, b < 2 ^ 62) (hl : B.length < 2 ^ 38) (s k : Nat) (hs : s < 2 ^ 62) (hk : B.length + B.length + 66 < k) : spec_soPut.f k (zs B) (s : Int) = some (zs (putB B s)) := by
  have hb : ∀ b ∈ B, 1 ≤ b ∧ b < 2 ^ 62 := fun b hb => ⟨Nat.pos_of_ne_zero (hB.ne b hb), hlt b hb⟩
  have hr : red B s < 2 ^ 62 := red_lt hlt hs
  unfold spec_soPut.f
  rw [soRed_f B hb (by omega) s k hs (by omega)]
  simp only [bs]
  by_cases h0 : red B s = 0
  · rw [h0, putB_red0 h0]
    exact if_pos rfl
  · rw [if_neg (by omega), soTop_f _ hr k (by omega)]
    simp only [bs]
    have e : putB B s = B.filter (fun b => b.log2 < (red B s).log2) ++ red B s :: (B.filter (fun b => (red B s).log2 < b.log2)).map (clr (red B s)) := if_neg h0
    have := soPut_l0 B hb (by omega) (red B s) hr B.length 0 k [] (by omega) hk (by simp; omega)
    rw [topI_pos (by omega), zs_length, e]
    exact this
theorem refs_len (es : List Nat) (n : Nat) : ∀ k, (refs es n k).1.length ≤ k ∧ (refs es n k).2.length ≤ k
  | 0 => ⟨Nat.le_refl _, Nat.le_refl _⟩
  | k + 1 => by
    have ih := refs_len es n k
    have h1 := putB_len (refs es n k).1 (red (refs es n k).1 (es.getD k 0 * 2 ^ n ^^^ 2 ^ k))
    have h2 := putB_len (refs es n k).2 (red (refs es n k).1 (es.getD k 0 * 2 ^ n ^^^ 2 ^ k))
    unfold refs
    split
    · refine ⟨?_, ?_⟩ <;> dsimp only <;> omega
    · refine ⟨?_, ?_⟩ <;> dsimp only <;> omega
theorem refQ_len (es : List Nat) : (refQ es).length ≤ es.length := (refs_len es es.length es.length).2
theorem or_x {e n i : Nat} (h : i < n) : e * 2 ^ n ||| 2 ^ i = e * 2 ^ n ^^^ 2 ^ i := by
  apply Nat.eq_of_testBit_eq
  intro j
  rw [Nat.testBit_or, Nat.testBit_xor, ← Nat.shiftLeft_eq, Nat.testBit_shiftLeft]
  by_cases hj : j = i
  · subst hj
    rw [decide_eq_false (by omega : ¬ j ≥ n), Nat.testBit_two_pow_self]; rfl
  · rw [Nat.testBit_two_pow_of_ne (Ne.symm hj), Bool.or_false, Bool.xor_false]
theorem mul16 {a n : Nat} (ha : a < 2 ^ 16) (hn : n ≤ 16) : a * 2 ^ n < 2 ^ 32 := by
  have h1 : 2 ^ n ≤ 2 ^ 16 := Nat.pow_le_pow_right (by decide) hn
  exact Nat.lt_of_lt_of_le (Nat.mul_lt_mul_of_lt_of_le ha h1 (by decide)) (by decide)
theorem refs_lt {es : List Nat} (he : ∀ e ∈ es, e < 2 ^ 16) (hn : es.length ≤ 16) {k : Nat} (hk : k ≤ es.length) : (∀ b ∈ (refs es es.length k).1, b < 2 ^ 62) ∧ (∀ b ∈ (refs es es.length k).2, b < 2 ^ 62) := by
  have hi := refs_inr es k hk
  have hp : ∀ y, y < 2 ^ k → y < 2 ^ 32 := fun y hy => Nat.lt_of_lt_of_le hy (Nat.pow_le_pow_right (by decide) (by omega))
  refine ⟨fun b hb => ?_, fun b hb => ?_⟩
  · obtain ⟨y, hy, rfl⟩ := hi.inP b (Sp.mem hb)
    exact Nat.lt_trans (Nat.xor_lt_two_pow (mul16 (mp_lt he y _) hn) (hp y hy)) (by decide)
  · exact Nat.lt_trans (hp b (hi.inQ b (Sp.mem hb)).1) (by decide)
theorem refs_t {es : List Nat} (he : ∀ e ∈ es, e < 2 ^ 16) (hn : es.length ≤ 16) {i : Nat} (hi : i < es.length) : es.getD i 0 < 2 ^ 16 ∧ es.getD i 0 * 2 ^ es.length ^^^ 2 ^ i < 2 ^ 32 := by
  have h1 : es.getD i 0 < 2 ^ 16 := by rw [gD_lt _ _ hi]; exact he _ (List.getElem_mem hi)
  exact ⟨h1, Nat.xor_lt_two_pow (mul16 h1 hn) (Nat.pow_lt_pow_right (by decide) (by omega))⟩
theorem soQuiet_l1 (P : List Nat) (hP : ∀ b ∈ P, 1 ≤ b ∧ b < 2 ^ 62) (hl : P.length < 2 ^ 40) (n : Nat) (q : List Int) (len i : Int) (l : List Int) (own : Bool) (r : List Int) (K : Nat) (hK : 64 ≤ K) : ∀ j s k : Nat, s < 2 ^ 62 → j ≤ P.length → j + K < k →
    (∀ k', K ≤ k' → (if (shr .i64 ((red (P.take j) s : Nat) : Int) (n : Int)) = 0 then ((spec_soPut.f k' q ((red (P.take j) s : Nat) : Int)).bind fun t154 => (spec_soQuiet.l0 k' (n : Int) (zs P) t154 len (wrap64 (i + 1)) l own)) else ((spec_soPut.f k' (zs P) ((red (P.take j) s : Nat) : Int)).bind fun t157 => (spec_soQuiet.l0 k' (n : Int) t157 q len (wrap64 (i + 1)) l own))) = some r) →
    spec_soQuiet.l1 k (n : Int) (zs P) q (s : Int) ((j : Int) - 1) len i l own = some r := by
  intro j
  induction j with
  | zero =>
    intro s k hs hn hk hf
    obtain ⟨k, rfl⟩ : ∃ m, k = m + 1 := ⟨k - 1, by omega⟩
    rw [spec_soQuiet.l1, if_neg (by omega), if_pos (Int.natCast_nonneg _)]
    exact hf k (by omega)
  | succ j ih =>
    intro s k hs hn hk hf
    obtain ⟨k, rfl⟩ : ∃ m, k = m + 1 := ⟨k - 1, by omega⟩
    have hi : j < P.length := by omega
    obtain ⟨h1, h2⟩ := hP _ (List.getElem_mem hi)
    have ht : P.take (j + 1) = P.take j ++ [P[j]] := List.take_succ_eq_append_getElem hi
    have hw : wrap64 ((j : Int) - 1) = (j : Int) - 1 := by unfold wrap64; omega
    rw [ht, red_snoc] at hf
    rw [show (((j + 1 : Nat) : Int) - 1) = (j : Int) by omega, spec_soQuiet.l1, if_pos (by omega), if_pos (by omega), if_pos (by rw [zs_length]; omega), rd_zs, gD_lt _ _ hi, soTop_f _ h2 k (by omega)]
    simp only [bs]
    rw [topI_pos h1, grIn_f s _ (by omega)]
    simp only [bs]
    rw [hw]
    by_cases hb : s.testBit (P[j]).log2 = true
    · rw [if_pos hb] at hf
      rw [if_pos hb, xorn _ _ (by omega) (by omega)]
      exact ih _ k (Nat.xor_lt_two_pow hs h2) (by omega) (by omega) hf
    · rw [if_neg hb] at hf
      rw [if_neg hb]
      exact ih s k hs (by omega) (by omega) hf
theorem soQuiet_l (m : List Nat) (hg : GoodG m) (own : Bool) : ∀ n i k, i + n = m.length → n * 20 + 130 < k →
    spec_soQuiet.l0 k (m.length : Int) (zs (refs (tgls m own) m.length i).1) (zs (refs (tgls m own) m.length i).2) (m.length : Int) (i : Int) (zs m) own = some (zs (refQ (tgls m own))) := by
  have hlen := tgls_length m own
  have he := tgls_lt16 hg own
  have h16 := hg.le
  intro n
  induction n with
  | zero =>
    intro i k hi hk
    obtain ⟨k, rfl⟩ : ∃ m, k = m + 1 := ⟨k - 1, by omega⟩
    rw [spec_soQuiet.l0, if_neg (by omega), refQ, hlen, show i = m.length by omega]
  | succ n ih =>
    intro i k hi hk
    obtain ⟨k, rfl⟩ : ∃ m, k = m + 1 := ⟨k - 1, by omega⟩
    have hib : i < (tgls m own).length := by rw [hlen]; omega
    have hinr := refs_inr (tgls m own) i (by omega)
    obtain ⟨hltP, hltQ⟩ := refs_lt he (by rw [hlen]; exact h16) (k := i) (by omega)
    obtain ⟨hle1, hle2⟩ := refs_len (tgls m own) (tgls m own).length i
    obtain ⟨ht1, ht2⟩ := refs_t he (by rw [hlen]; exact h16) hib
    have ihs := fun k' => ih (i + 1) k' (by omega)
    rw [hlen] at hinr hltP hltQ hle1 hle2 ht2
    rw [tgls_get m own (by omega)] at ht1 ht2
    have hsucc : refs (tgls m own) m.length (i + 1) = if red (refs (tgls m own) m.length i).1 (tgl m own i * 2 ^ m.length ^^^ 2 ^ i) / 2 ^ m.length = 0 then ((refs (tgls m own) m.length i).1, putB (refs (tgls m own) m.length i).2 (red (refs (tgls m own) m.length i).1 (tgl m own i * 2 ^ m.length ^^^ 2 ^ i)))
        else (putB (refs (tgls m own) m.length i).1 (red (refs (tgls m own) m.length i).1 (tgl m own i * 2 ^ m.length ^^^ 2 ^ i)), (refs (tgls m own) m.length i).2) := by
      rw [refs, tgls_get m own (by omega)]
    have hm1 := mul16 ht1 h16
    rw [spec_soQuiet.l0, if_pos (by omega), grTog_f m hg own i (by omega)]
    simp only [bs]
    rw [if_pos (Int.natCast_nonneg _), if_pos (Int.natCast_nonneg _), shln _ _ (by omega) (by omega), shl1 i (by omega), orn _ _ (by omega) (pow63 (by omega)), or_x (by omega), zs_length]
    have hw : wrap64 (((refs (tgls m own) m.length i).1.length : Int) - 1) = ((refs (tgls m own) m.length i).1.length : Int) - 1 := by unfold wrap64; omega
    rw [hw]
    have hwi : wrap64 ((i : Int) + 1) = ((i + 1 : Nat) : Int) := by rw [show ((i : Int) + 1) = ((i + 1 : Nat) : Int) from rfl, wrapn _ (by omega)]
    generalize hP : (refs (tgls m own) m.length i).1 = P at *
    generalize hQ : (refs (tgls m own) m.length i).2 = Q at *
    generalize tgl m own i * 2 ^ m.length ^^^ 2 ^ i = t at *
    refine soQuiet_l1 P (fun b hb => ⟨Nat.pos_of_ne_zero (hinr.isP.ne b hb), hltP b hb⟩) (by omega) m.length (zs Q) _ i _ _ _ (n * 20 + 131) (by omega) P.length t k (by omega) (Nat.le_refl _) (by omega) ?_
    intro k' hk'
    have hr : red P t < 2 ^ 62 := red_lt hltP (by omega)
    rw [List.take_length, shrn _ _ (by omega), hwi]
    by_cases h0 : red P t / 2 ^ m.length = 0
    · rw [if_pos h0] at hsucc
      rw [if_pos (by omega), soPut_f Q hinr.isQ hltQ (by omega) _ k' hr (by omega)]
      simp only [bs]
      have := ihs k' (by omega)
      rw [hsucc] at this
      exact this
    · rw [if_neg h0] at hsucc
      rw [if_neg (by omega), soPut_f P hinr.isP hltP (by omega) _ k' hr (by omega)]
      simp only [bs]
      have := ihs k' (by omega)
      rw [hsucc] at this
      exact this
theorem soQuiet_f (m : List Nat) (hg : GoodG m) (own : Bool) (k : Nat) (hk : m.length * 20 + 130 < k) : spec_soQuiet.f k (zs m) own = some (zs (refQ (tgls m own))) := by
  unfold spec_soQuiet.f
  rw [zs_length]
  exact soQuiet_l m hg own m.length 0 k (by omega) hk
theorem soSolve_l1 (P : List Nat) (hP : ∀ b ∈ P, 1 ≤ b ∧ b < 2 ^ 62) (hl : P.length < 2 ^ 40) (n : Nat) (x len i : Int) (l : List Int) (own : Bool) (r : Int × Bool) (K : Nat) (hK : 64 ≤ K) : ∀ j s k : Nat, s < 2 ^ 62 → j ≤ P.length → j + K < k →
    (∀ k', K ≤ k' → (if (shr .i64 ((red (P.take j) s : Nat) : Int) (n : Int)) > 0 then ((spec_soPut.f k' (zs P) ((red (P.take j) s : Nat) : Int)).bind fun t154 => (spec_soSolve.l0 k' x (n : Int) t154 len (wrap64 (i + 1)) l own)) else (spec_soSolve.l0 k' x (n : Int) (zs P) len (wrap64 (i + 1)) l own)) = some r) →
    spec_soSolve.l1 k x (n : Int) (zs P) (s : Int) ((j : Int) - 1) len i l own = some r := by
  intro j
  induction j with
  | zero =>
    intro s k hs hn hk hf
    obtain ⟨k, rfl⟩ : ∃ m, k = m + 1 := ⟨k - 1, by omega⟩
    rw [spec_soSolve.l1, if_neg (by omega), if_pos (Int.natCast_nonneg _)]
    exact hf k (by omega)
  | succ j ih =>
    intro s k hs hn hk hf
    obtain ⟨k, rfl⟩ : ∃ m, k = m + 1 := ⟨k - 1, by omega⟩
    have hi : j < P.length := by omega
    obtain ⟨h1, h2⟩ := hP _ (List.getElem_mem hi)
    have ht : P.take (j + 1) = P.take j ++ [P[j]] := List.take_succ_eq_append_getElem hi
    have hw : wrap64 ((j : Int) - 1) = (j : Int) - 1 := by unfold wrap64; omega
    rw [ht, red_snoc] at hf
    rw [show (((j + 1 : Nat) : Int) - 1) = (j : Int) by omega, spec_soSolve.l1, if_pos (by omega), if_pos (by omega), if_pos (by rw [zs_length]; omega), rd_zs, gD_lt _ _ hi, soTop_f _ h2 k (by omega)]
    simp only [bs]
    rw [topI_pos h1, grIn_f s _ (by omega)]
    simp only [bs]
    rw [hw]
    by_cases hb : s.testBit (P[j]).log2 = true
    · rw [if_pos hb] at hf
      rw [if_pos hb, xorn _ _ (by omega) (by omega)]
      exact ih _ k (Nat.xor_lt_two_pow hs h2) (by omega) (by omega) hf
    · rw [if_neg hb] at hf
      rw [if_neg hb]
      exact ih s k hs (by omega) (by omega) hf
/-- What the reference answers. -/
def ans (es : List Nat) (x : Nat) : Int × Bool := if red (refP es) (x * 2 ^ es.length) / 2 ^ es.length = 0 then (((red (refQ es) (red (refP es) (x * 2 ^ es.length)) : Nat) : Int), true) else (0, false)
theorem soSolve_l (m : List Nat) (hg : GoodG m) (own : Bool) (x : Nat) (hx : x < 2 ^ 16) : ∀ n i k, i + n = m.length → n * 20 + 600 < k →
    spec_soSolve.l0 k (x : Int) (m.length : Int) (zs (refs (tgls m own) m.length i).1) (m.length : Int) (i : Int) (zs m) own = some (ans (tgls m own) x) := by
  have hlen := tgls_length m own
  have he := tgls_lt16 hg own
  have h16 := hg.le
  intro n
  induction n with
  | zero =>
    intro i k hi hk
    obtain ⟨k, rfl⟩ : ∃ m, k = m + 1 := ⟨k - 1, by omega⟩
    have hm1 := mul16 hx h16
    have hinr := refs_inr (tgls m own) (tgls m own).length (Nat.le_refl _)
    obtain ⟨hltP, hltQ⟩ := refs_lt he (by rw [hlen]; exact h16) (k := (tgls m own).length) (Nat.le_refl _)
    obtain ⟨hle1, hle2⟩ := refs_len (tgls m own) (tgls m own).length (tgls m own).length
    have hP : (refs (tgls m own) m.length i).1 = refP (tgls m own) := by rw [refP, hlen, show i = m.length by omega]
    change ∀ b ∈ refP (tgls m own), b < 2 ^ 62 at hltP
    change ∀ b ∈ refQ (tgls m own), b < 2 ^ 62 at hltQ
    change (refP (tgls m own)).length ≤ _ at hle1
    change (refQ (tgls m own)).length ≤ _ at hle2
    have hr : red (refP (tgls m own)) (x * 2 ^ m.length) < 2 ^ 62 := red_lt hltP (by omega)
    rw [spec_soSolve.l0, if_neg (by omega), if_pos (Int.natCast_nonneg _), hP, shln _ _ (by omega) (by omega), soRed_f (refP (tgls m own)) (fun b hb => ⟨Nat.pos_of_ne_zero (hinr.isP.ne b hb), hltP b hb⟩) (by omega) _ k (by omega) (by omega)]
    simp only [bs]
    rw [shrn _ _ (by omega), ans, hlen]
    by_cases h0 : red (refP (tgls m own)) (x * 2 ^ m.length) / 2 ^ m.length = 0
    · rw [if_neg (by omega), soQuiet_f m hg own k (by omega), if_pos h0]
      simp only [bs]
      rw [soRed_f (refQ (tgls m own)) (fun b hb => ⟨Nat.pos_of_ne_zero (hinr.isQ.ne b hb), hltQ b hb⟩) (by omega) _ k hr (by omega)]
      simp only [bs]
    · rw [if_pos (Int.natCast_pos.2 (Nat.pos_of_ne_zero h0)), if_neg h0]
  | succ n ih =>
    intro i k hi hk
    obtain ⟨k, rfl⟩ : ∃ m, k = m + 1 := ⟨k - 1, by omega⟩
    have hib : i < (tgls m own).length := by rw [hlen]; omega
    have hinr := refs_inr (tgls m own) i (by omega)
    obtain ⟨hltP, hltQ⟩ := refs_lt he (by rw [hlen]; exact h16) (k := i) (by omega)
    obtain ⟨hle1, hle2⟩ := refs_len (tgls m own) (tgls m own).length i
    obtain ⟨ht1, ht2⟩ := refs_t he (by rw [hlen]; exact h16) hib
    have ihs := fun k' => ih (i + 1) k' (by omega)
    rw [hlen] at hinr hltP hltQ hle1 hle2 ht2
    rw [tgls_get m own (by omega)] at ht1 ht2
    have hsucc : refs (tgls m own) m.length (i + 1) = if red (refs (tgls m own) m.length i).1 (tgl m own i * 2 ^ m.length ^^^ 2 ^ i) / 2 ^ m.length = 0 then ((refs (tgls m own) m.length i).1, putB (refs (tgls m own) m.length i).2 (red (refs (tgls m own) m.length i).1 (tgl m own i * 2 ^ m.length ^^^ 2 ^ i)))
        else (putB (refs (tgls m own) m.length i).1 (red (refs (tgls m own) m.length i).1 (tgl m own i * 2 ^ m.length ^^^ 2 ^ i)), (refs (tgls m own) m.length i).2) := by
      rw [refs, tgls_get m own (by omega)]
    have hm1 := mul16 ht1 h16
    rw [spec_soSolve.l0, if_pos (by omega), grTog_f m hg own i (by omega)]
    simp only [bs]
    rw [if_pos (Int.natCast_nonneg _), if_pos (Int.natCast_nonneg _), shln _ _ (by omega) (by omega), shl1 i (by omega), orn _ _ (by omega) (pow63 (by omega)), or_x (by omega), zs_length]
    have hw : wrap64 (((refs (tgls m own) m.length i).1.length : Int) - 1) = ((refs (tgls m own) m.length i).1.length : Int) - 1 := by unfold wrap64; omega
    rw [hw]
    have hwi : wrap64 ((i : Int) + 1) = ((i + 1 : Nat) : Int) := by rw [show ((i : Int) + 1) = ((i + 1 : Nat) : Int) from rfl, wrapn _ (by omega)]
    generalize hP : (refs (tgls m own) m.length i).1 = P at *
    generalize hQ : (refs (tgls m own) m.length i).2 = Q at *
    generalize tgl m own i * 2 ^ m.length ^^^ 2 ^ i = t at *
    obtain ⟨K, hK⟩ : ∃ K, K = n * 20 + 601 := ⟨_, rfl⟩
    refine soSolve_l1 P (fun b hb => ⟨Nat.pos_of_ne_zero (hinr.isP.ne b hb), hltP b hb⟩) (by omega) m.length (x : Int) _ i _ _ _ K (by omega) P.length t k (by omega) (Nat.le_refl _) (by omega) ?_
    intro k' hk'
    have hr : red P t < 2 ^ 62 := red_lt hltP (by omega)
    rw [List.take_length, shrn _ _ (by omega), hwi]
    by_cases h0 : red P t / 2 ^ m.length = 0
    · rw [if_pos h0] at hsucc
      rw [if_neg (by omega)]
      have := ihs k' (by omega)
      rw [hsucc] at this
      exact this
    · rw [if_neg h0] at hsucc
      rw [if_pos (Int.natCast_pos.2 (Nat.pos_of_ne_zero h0)), soPut_f P hinr.isP hltP (by omega) _ k' hr (by omega)]
      simp only [bs]
      have := ihs k' (by omega)
      rw [hsucc] at this
      exact this
theorem soSolve_f (m : List Nat) (hg : GoodG m) (own : Bool) (x : Nat) (hx : x < 2 ^ 16) (k : Nat) (hk : m.length * 20 + 600 < k) : spec_soSolve.f k (zs m) own (x : Int) = some (ans (tgls m own) x) := by
  unfold spec_soSolve.f
  rw [zs_length]
  exact soSolve_l m hg own x hx m.length 0 k (by omega) hk
theorem l1Own_f (l : List Int) (h : l.length < 17592186044416) : spec_l1Own.f l = some l := by
  unfold spec_l1Own.f
  simp only [bs]
  rw [if_pos (by simp; omega), List.nil_append]
theorem soSums_l1 (B S : List Nat) (b i : Nat) (hb : b < 2 ^ 62) (hS : ∀ x ∈ S, x < 2 ^ 62) (hl : S.length ≤ 65536) (r : List Int) (K : Nat) : ∀ n j k, j + n = S.length → n + K < k →
    (∀ k', K ≤ k' → spec_soSums.l0 k' (zs (S ++ S.map (· ^^^ b))) (zs B) (B.length : Int) (wrap64 ((i : Int) + 1)) = some r) →
    spec_soSums.l1 k (zs (S ++ (S.take j).map (· ^^^ b))) (b : Int) (zs B) (B.length : Int) (i : Int) (zs S) (S.length : Int) (j : Int) = some r := by
  intro n
  induction n with
  | zero =>
    intro j k hj hk hf
    obtain ⟨k, rfl⟩ : ∃ m, k = m + 1 := ⟨k - 1, by omega⟩
    rw [spec_soSums.l1, if_neg (by omega), List.take_of_length_le (by omega)]
    exact hf k (by omega)
  | succ n ih =>
    intro j k hj hk hf
    obtain ⟨k, rfl⟩ : ∃ m, k = m + 1 := ⟨k - 1, by omega⟩
    have hjl : j < S.length := by omega
    have h1 := hS _ (List.getElem_mem hjl)
    rw [spec_soSums.l1, if_pos (by omega), if_pos (by omega), if_pos (by rw [zs_length]; omega), if_pos (by rw [zs_length, List.length_append, List.length_map, List.length_take]; omega), rd_zs, xorn _ _ (by rw [gD_lt _ _ hjl]; omega) (by omega), ← Go.Proofs.Ythjbccbaobkobaa.Ptw.map_take S b hjl, show ((j : Int) + 1) = ((j + 1 : Nat) : Int) from rfl, wrapn _ (by omega)]
    exact ih (j + 1) k (by omega) (by omega) hf
theorem soSums_l0 (B : List Nat) (hB : ∀ b ∈ B, b < 2 ^ 62) (hl : B.length ≤ 16) (M : Nat) (hM : 2 ^ B.length ≤ M) : ∀ n i k, i + n = B.length → n * (M + 3) + 10 < k → spec_soSums.l0 k (zs (Pat.sums (B.take i))) (zs B) (B.length : Int) (i : Int) = some (zs (Pat.sums B)) := by
  intro n
  induction n with
  | zero =>
    intro i k hi hk
    obtain ⟨k, rfl⟩ : ∃ m, k = m + 1 := ⟨k - 1, by omega⟩
    rw [spec_soSums.l0, if_neg (by omega), List.take_of_length_le (by omega)]
  | succ n ih =>
    intro i k hi hk
    obtain ⟨k, rfl⟩ : ∃ m, k = m + 1 := ⟨k - 1, by omega⟩
    rw [Nat.succ_mul] at hk
    have hib : i < B.length := by omega
    have h1 := hB _ (List.getElem_mem hib)
    have h2 : (Pat.sums (B.take i)).length = 2 ^ i := by rw [Pat.sums_len, List.length_take, Nat.min_eq_left (by omega)]
    have h3 : 2 ^ i ≤ 65536 := Nat.le_trans (Nat.pow_le_pow_right (by decide) (by omega : i ≤ 16)) (by decide)
    have h4 : 2 ^ i ≤ M := Nat.le_trans (Nat.pow_le_pow_right (by decide) (by omega)) hM
    have hS : ∀ x ∈ Pat.sums (B.take i), x < 2 ^ 62 := Go.Proofs.Ythjbccbaobkobaa.Ptw.sums_lt fun b hb => hB b (List.mem_of_mem_take hb)
    have hT := Go.Proofs.Ythjbccbaobkobaa.Ptw.sums_take B hib
    rw [gD_lt _ _ hib] at hT
    have ihs := fun k' => ih (i + 1) k' (by omega)
    rw [hT] at ihs
    rw [← h2] at h3 h4
    clear h2 hM
    generalize Pat.sums (B.take i) = S at *
    have hw : wrap64 ((i : Int) + 1) = ((i + 1 : Nat) : Int) := by rw [show ((i : Int) + 1) = ((i + 1 : Nat) : Int) from rfl, wrapn _ (by omega)]
    rw [spec_soSums.l0, if_pos (by omega), if_pos (by omega), if_pos (by rw [zs_length]; omega), l1Own_f _ (by rw [zs_length]; omega), rd_zs, gD_lt _ _ hib]
    simp only [bs]
    rw [zs_length]
    obtain ⟨K, hK⟩ : ∃ K, K = n * (M + 3) + 11 := ⟨_, rfl⟩
    have := soSums_l1 B S B[i] i h1 hS h3 (zs (Pat.sums B)) K S.length 0 k (by omega) (by omega) fun k' hk' => by rw [hw]; exact ihs k' (by omega)
    rw [List.take_zero, List.map_nil, List.append_nil] at this
    exact this
theorem soSums_f (B : List Nat) (hB : ∀ b ∈ B, b < 2 ^ 62) (hl : B.length ≤ 16) (M : Nat) (hM : 2 ^ B.length ≤ M) (k : Nat) (hk : B.length * (M + 3) + 10 < k) : spec_soSums.f k (zs B) = some (zs (Pat.sums B)) := by
  unfold spec_soSums.f
  rw [zs_length]
  exact soSums_l0 B hB hl M hM B.length 0 k (by omega) hk
theorem sleast_l (one : Nat) (h1 : one < 2 ^ 16) (qs : List Nat) (hq : ∀ q ∈ qs, q < 2 ^ 16) (hl : qs.length ≤ 65536) : ∀ n i k, i + n = qs.length → n + 20 < k →
    spec_soLeast.l0 k (one : Int) ((Go.Proofs.Ythjbccbaobkobaa.Els.leastOf one (qs.take i) : Nat) : Int) (zs qs) (qs.length : Int) (i : Int) = some (((Go.Proofs.Ythjbccbaobkobaa.Els.leastOf one qs : Nat) : Int), true) := by
  intro n
  induction n with
  | zero =>
    intro i k hi hk
    obtain ⟨k, rfl⟩ : ∃ m, k = m + 1 := ⟨k - 1, by omega⟩
    rw [spec_soLeast.l0, if_neg (by omega), List.take_of_length_le (by omega)]
  | succ n ih =>
    intro i k hi hk
    obtain ⟨k, rfl⟩ : ∃ m, k = m + 1 := ⟨k - 1, by omega⟩
    have hib : i < qs.length := by omega
    have hqi := hq _ (List.getElem_mem hib)
    have hb := Go.Proofs.Ythjbccbaobkobaa.Els.least_lt (n := 16) h1 (qs := qs.take i) (fun q h => hq q (List.mem_of_mem_take h))
    have ho : one ^^^ qs[i] < 2 ^ 16 := Nat.xor_lt_two_pow h1 hqi
    have hs : Go.Proofs.Ythjbccbaobkobaa.Els.leastOf one (qs.take (i + 1)) = Go.Proofs.Ythjbccbaobkobaa.Els.lstep one (Go.Proofs.Ythjbccbaobkobaa.Els.leastOf one (qs.take i)) qs[i] := by rw [List.take_succ_eq_append_getElem hib, Go.Proofs.Ythjbccbaobkobaa.Els.least_snoc]
    have ihs := ih (i + 1) k (by omega) (by omega)
    rw [spec_soLeast.l0, if_pos (by omega), if_pos (by omega), if_pos (by rw [zs_length]; omega), rd_zs, gD_lt _ _ hib, xorn _ _ (by omega) (by omega)]
    generalize Go.Proofs.Ythjbccbaobkobaa.Els.leastOf one (qs.take i) = best at *
    have hst : Go.Proofs.Ythjbccbaobkobaa.Els.lstep one best qs[i] = if Go.Proofs.Ythjbccbaobkobaa.Els.better (one ^^^ qs[i]) best then one ^^^ qs[i] else best := rfl
    rw [hst] at hs
    clear hst
    generalize one ^^^ qs[i] = o at *
    have hbe : Go.Proofs.Ythjbccbaobkobaa.Els.better o best = (decide (Pop.pop 16 o < Pop.pop 16 best) || (decide (Pop.pop 16 o = Pop.pop 16 best) && decide (o < best))) := rfl
    rw [grCount_f o ho k (by omega), grCount_f best hb k (by omega)]
    simp only [bs]
    rw [show ((i : Int) + 1) = ((i + 1 : Nat) : Int) from rfl, wrapn _ (by omega)]
    generalize Pop.pop 16 o = a at *
    generalize Pop.pop 16 best = b at *
    by_cases c1 : a < b
    · rw [decide_eq_true c1, Bool.true_or] at hbe
      rw [hbe, if_pos rfl] at hs
      rw [hs] at ihs
      rw [if_pos (by omega)]
      exact ihs
    · rw [if_neg (by omega)]
      by_cases c2 : a = b
      · rw [if_pos (by omega)]
        by_cases c3 : o < best
        · rw [decide_eq_false c1, decide_eq_true c2, decide_eq_true c3, Bool.false_or, Bool.true_and] at hbe
          rw [hbe, if_pos rfl] at hs
          rw [hs] at ihs
          rw [if_pos (by omega)]
          exact ihs
        · rw [decide_eq_false c1, decide_eq_true c2, decide_eq_false c3] at hbe
          rw [hbe, if_neg (by decide)] at hs
          rw [hs] at ihs
          rw [if_neg (by omega)]
          exact ihs
      · rw [decide_eq_false c1, decide_eq_false c2, Bool.false_and, Bool.false_or] at hbe
        rw [hbe, if_neg (by decide)] at hs
        rw [hs] at ihs
        rw [if_neg (by omega)]
        exact ihs
theorem soLeast_f (m : List Nat) (hg : GoodG m) (own : Bool) (x : Nat) (hx : x < 2 ^ 16) (k : Nat) (hk : 1100000 < k) : spec_soLeast.f k (zs m) own (x : Int) = some (Go.Proofs.Ythjbccbaobkobaa.Els.tel (Go.Proofs.Ythjbccbaobkobaa.Exd.slvd (zs m) own (x : Int)) (Go.Proofs.Ythjbccbaobkobaa.Els.leastOf (red (refQ (tgls m own)) (Go.Proofs.Ythjbccbaobkobaa.Exd.lef (zs m) own (x : Int))) (Pat.sums (refQ (tgls m own)))) false) := by
  have h16 := hg.le
  have hln := refQ_len (tgls m own)
  rw [tgls_length] at hln
  have hltn : ∀ b ∈ refQ (tgls m own), b < 2 ^ 16 := fun b hb => by
    have h1 := ((refQ_kernel (tgls m own) b).1 (Sp.mem hb)).1
    rw [tgls_length] at h1
    exact Nat.lt_of_lt_of_le h1 (pow16 hg)
  have hM : 2 ^ (refQ (tgls m own)).length ≤ 65536 := Nat.le_trans (Nat.pow_le_pow_right (by decide) (by omega : _ ≤ 16)) (by decide)
  have hfu : (refQ (tgls m own)).length * (65536 + 3) ≤ 16 * (65536 + 3) := Nat.mul_le_mul_right _ (by omega)
  unfold spec_soLeast.f
  rw [soSolve_f m hg own x hx k (by omega)]
  simp only [bs]
  unfold ans Go.Proofs.Ythjbccbaobkobaa.Exd.slvd Go.Proofs.Ythjbccbaobkobaa.Exd.lef
  rw [Go.Proofs.Ythjbccbaobkobaa.Exd.efs_zs, Int.toNat_natCast]
  by_cases h0 : red (refP (tgls m own)) (x * 2 ^ (tgls m own).length) / 2 ^ (tgls m own).length = 0
  · have hp := (refP_presses (tgls m own) h0).1
    rw [tgls_length] at hp
    have hone : red (refQ (tgls m own)) (red (refP (tgls m own)) (x * 2 ^ (tgls m own).length)) < 2 ^ 16 := red_lt hltn (Nat.lt_of_lt_of_le (by rw [tgls_length]; exact hp) (pow16 hg))
    rw [if_pos h0, decide_eq_true h0]
    generalize red (refQ (tgls m own)) (red (refP (tgls m own)) (x * 2 ^ (tgls m own).length)) = one at *
    rw [if_pos rfl, soQuiet_f m hg own k (by omega)]
    simp only [bs]
    rw [soSums_f _ (fun b hb => Nat.lt_trans (hltn b hb) (by decide)) (by omega) 65536 hM k (by omega)]
    simp only [bs]
    have hsl : (Pat.sums (refQ (tgls m own))).length ≤ 65536 := by rw [Pat.sums_len]; exact hM
    have := sleast_l one hone (Pat.sums (refQ (tgls m own))) (fun q hq => Sp.lt hltn (Pat.sums_sp _ q hq)) hsl (Pat.sums (refQ (tgls m own))).length 0 k (by omega) (by omega)
    rw [List.take_zero] at this
    rw [zs_length]
    exact this
  · rw [if_neg h0, decide_eq_false h0, if_neg (by decide)]
    rfl
theorem sfar_l (m : List Nat) (hg : GoodG m) (own : Bool) : ∀ n j k, j + n = 2 ^ m.length → 1 ≤ j → n + 1100010 < k →
    spec_FarthestBoard.l0 k ((Go.Proofs.Ythjbccbaobkobaa.Far.far (Go.Proofs.Ythjbccbaobkobaa.Far.few (eff m own) (2 ^ m.length)) j).1 : Int) (Go.Proofs.Ythjbccbaobkobaa.Far.far (Go.Proofs.Ythjbccbaobkobaa.Far.few (eff m own) (2 ^ m.length)) j).2 (j : Int) (zs m) own = some (((Go.Proofs.Ythjbccbaobkobaa.Far.far (Go.Proofs.Ythjbccbaobkobaa.Far.few (eff m own) (2 ^ m.length)) (2 ^ m.length)).1 : Int), (Go.Proofs.Ythjbccbaobkobaa.Far.far (Go.Proofs.Ythjbccbaobkobaa.Far.few (eff m own) (2 ^ m.length)) (2 ^ m.length)).2, true) := by
  have h16 := hg.le
  have hN := pow16 hg
  have hlt16 : ∀ x : Nat, Go.Proofs.Ythjbccbaobkobaa.Exd.slvd (zs m) own (x : Int) = true → Go.Proofs.Ythjbccbaobkobaa.Els.leastOf (red (refQ (tgls m own)) (Go.Proofs.Ythjbccbaobkobaa.Exd.lef (zs m) own (x : Int))) (Pat.sums (refQ (tgls m own))) < 2 ^ 16 := fun x hv => by
    have hltn : ∀ b ∈ refQ (tgls m own), b < 2 ^ 16 := fun b hb => by
      have h1 := ((refQ_kernel (tgls m own) b).1 (Sp.mem hb)).1
      rw [tgls_length] at h1
      exact Nat.lt_of_lt_of_le h1 (pow16 hg)
    unfold Go.Proofs.Ythjbccbaobkobaa.Exd.slvd Go.Proofs.Ythjbccbaobkobaa.Exd.lef at hv
    rw [Go.Proofs.Ythjbccbaobkobaa.Exd.efs_zs, Int.toNat_natCast, decide_eq_true_eq] at hv
    have hp := (refP_presses (tgls m own) hv).1
    rw [tgls_length] at hp
    unfold Go.Proofs.Ythjbccbaobkobaa.Exd.lef
    rw [Go.Proofs.Ythjbccbaobkobaa.Exd.efs_zs, Int.toNat_natCast]
    exact Go.Proofs.Ythjbccbaobkobaa.Els.least_lt (n := 16) (red_lt hltn (Nat.lt_of_lt_of_le (by rw [tgls_length]; exact hp) (pow16 hg))) (fun q hq => Sp.lt hltn (Pat.sums_sp _ q hq))
  have hfl := fun x => Go.Proofs.Ythjbccbaobkobaa.Fap.few_least m own x
  have hsl := fun (x : Nat) (hx : x < 2 ^ 16) k (hk : 1100000 < k) => soLeast_f m hg own x hx k hk
  generalize hfe : Go.Proofs.Ythjbccbaobkobaa.Far.few (eff m own) (2 ^ m.length) = f at *
  have hsh := shl1 m.length (by omega)
  generalize hNN : 2 ^ m.length = N at *
  clear hfe
  intro n
  induction n with
  | zero =>
    intro j k hj h1 hk
    obtain ⟨k, rfl⟩ : ∃ m, k = m + 1 := ⟨k - 1, by omega⟩
    obtain rfl : j = N := by omega
    rw [spec_FarthestBoard.l0, zs_length, hsh, if_neg (by omega)]
  | succ n ih =>
    intro j k hj h1 hk
    obtain ⟨k, rfl⟩ : ∃ m, k = m + 1 := ⟨k - 1, by omega⟩
    have ihs := ih (j + 1) k (by omega) (by omega) (by omega)
    have hs : Go.Proofs.Ythjbccbaobkobaa.Far.far f (j + 1) = match f j with | none => Go.Proofs.Ythjbccbaobkobaa.Far.far f j | some m => if (Go.Proofs.Ythjbccbaobkobaa.Far.far f j).2 < (m : Int) then (j, (m : Int)) else Go.Proofs.Ythjbccbaobkobaa.Far.far f j := rfl
    rw [hfl j] at hs
    rw [spec_FarthestBoard.l0, zs_length, hsh, if_pos (by omega), hsl j (by omega) k (by omega)]
    simp only [bs]
    rw [show ((j : Int) + 1) = ((j + 1 : Nat) : Int) from rfl, wrapn _ (by omega)]
    generalize Go.Proofs.Ythjbccbaobkobaa.Far.far f j = fj at *
    cases hv : Go.Proofs.Ythjbccbaobkobaa.Exd.slvd (zs m) own (j : Int) with
    | false =>
      rw [hv, if_neg (by decide)] at hs
      rw [hs] at ihs
      simp only [Go.Proofs.Ythjbccbaobkobaa.Els.tel, Bool.false_eq_true, if_false]
      exact ihs
    | true =>
      have hy := hlt16 j hv
      rw [hv, if_pos rfl] at hs
      simp only [Go.Proofs.Ythjbccbaobkobaa.Els.tel, if_true]
      generalize Go.Proofs.Ythjbccbaobkobaa.Els.leastOf (red (refQ (tgls m own)) (Go.Proofs.Ythjbccbaobkobaa.Exd.lef (zs m) own (j : Int))) (Pat.sums (refQ (tgls m own))) = y at *
      rw [grCount_f y hy k (by omega)]
      simp only [bs]
      dsimp only at hs
      by_cases c : fj.2 < ((Pop.pop 16 y : Nat) : Int)
      · rw [if_pos c] at hs
        rw [hs] at ihs
        rw [if_pos c]
        exact ihs
      · rw [if_neg c] at hs
        rw [hs] at ihs
        rw [if_neg c]
        exact ihs

end Go.Proofs.Ythjbccbaobkobaa.LemFnExactFarthestBoard
