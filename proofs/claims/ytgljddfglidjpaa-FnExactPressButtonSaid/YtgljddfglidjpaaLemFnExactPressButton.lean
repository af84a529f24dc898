/- Lemmas on the printed functions of FnExactPressButton: what loops and calls come to, at natural numbers in range. -/
import Derived.Test.YtgljddfglidjpaaPFnExactPressButtonx
import Derived.Test.YtgljddfglidjpaaBit
import Derived.Test.YtgljddfglidjpaaGra2
import Derived.Test.YtgljddfglidjpaaRow
namespace Go.Proofs.Ytgljddfglidjpaa.LemFnExactPressButton
open Go.RowKit Go.Proofs.Ytgljddfglidjpaa.PFnExactPressButton Go.Proofs.YtgljddfglidjpaaW.PrintWords Go.Proofs.YtgljddfglidjpaaW.PrintLast Go.Proofs.Ytgljddfglidjpaa.Bit Go.Proofs.Ytgljddfglidjpaa.Row Go.Proofs.Ytgljddfglidjpaa.Lin Go.Proofs.Ytgljddfglidjpaa.Gra

theorem eqIntS_l (l : List Int) (hl : l.length < 2 ^ 62) : ∀ n i k, i + n = l.length → n < k → laws_eqIntS.l0 k l l (i : Int) = some true := by
  intro n
  induction n with
  | zero =>
    intro i k hi hk
    obtain ⟨k, rfl⟩ : ∃ m, k = m + 1 := ⟨k - 1, by omega⟩
    rw [laws_eqIntS.l0, if_neg (by omega)]
  | succ n ih =>
    intro i k hi hk
    obtain ⟨k, rfl⟩ : ∃ m, k = m + 1 := ⟨k - 1, by omega⟩
    rw [laws_eqIntS.l0, if_pos (by omega), if_pos (by omega), if_pos (by omega), if_pos rfl, show ((i : Int) + 1) = ((i + 1 : Nat) : Int) from rfl, wrapn _ (by omega)]
    exact ih (i + 1) k (by omega) (by omega)
/-- A list is equal to itself. -/
theorem eqIntS_self (l : List Int) (hl : l.length < 2 ^ 62) (k : Nat) (hk : l.length < k) : laws_eqIntS.f k l l = some true := by
  unfold laws_eqIntS.f
  rw [if_pos rfl]
  exact eqIntS_l l hl l.length 0 k (by omega) hk
theorem whole_f (c : Nat) (h : c < 63) : impl_whole.f (c : Int) = some ((2 ^ c - 1 : Nat) : Int) := by
  unfold impl_whole.f
  rw [if_pos (Int.natCast_nonneg _), wholen c h]
theorem in_f (a b c : Int) : impl_in.f a b c = some (decide (b ≤ a ∧ a ≤ c)) := by
  unfold impl_in.f
  split
  · rename_i h; simp [h]
  · rename_i h; simp [h]
theorem l1In_f (a b c : Int) : spec_l1In.f a b c = some (decide (b ≤ a ∧ a ≤ c)) := by
  unfold spec_l1In.f
  split
  · rename_i h; simp [show b ≤ a from h]
  · rename_i h; simp [show ¬ b ≤ a from h]
theorem has_f (x i : Nat) (hx : x < 2 ^ 63) : impl_has.f (x : Int) (i : Int) = some (x.testBit i) := by
  unfold impl_has.f
  rw [if_pos (Int.natCast_nonneg _), shrn x i hx, show (1 : Int) = ((1 : Nat) : Int) from rfl, andn _ _ (Nat.lt_of_le_of_lt (Nat.div_le_self _ _) hx) (by decide), Nat.and_one_is_mod, Nat.testBit_eq_decide_div_mod_eq]
  congr 1
  rcases Nat.mod_two_eq_zero_or_one (x / 2 ^ i) with h | h <;> rw [h] <;> rfl
theorem grIn_f (x i : Nat) (hx : x < 2 ^ 63) : spec_grIn.f (x : Int) (i : Int) = some (x.testBit i) := by
  unfold spec_grIn.f
  rw [if_pos (Int.natCast_nonneg _), shrn x i hx, Nat.testBit_eq_decide_div_mod_eq]
  congr 1
  have e : Int.tmod ((x / 2 ^ i : Nat) : Int) 2 = ((x / 2 ^ i % 2 : Nat) : Int) := rfl
  rw [e]
  rcases Nat.mod_two_eq_zero_or_one (x / 2 ^ i) with h | h <;> rw [h] <;> rfl
theorem l1All_l (l : List Int) (a b : Int) (hl : l.length < 2 ^ 62) : ∀ n i k, i + n = l.length → n < k → spec_l1All.l0 k a b l (l.length : Int) (i : Int) = some (decide (∀ x ∈ l.drop i, a ≤ x ∧ x ≤ b)) := by
  intro n
  induction n with
  | zero =>
    intro i k hi hk
    obtain ⟨k, rfl⟩ : ∃ m, k = m + 1 := ⟨k - 1, by omega⟩
    rw [spec_l1All.l0, if_neg (by omega), show l.drop i = [] from List.drop_eq_nil_of_le (by omega)]
    simp
  | succ n ih =>
    intro i k hi hk
    obtain ⟨k, rfl⟩ : ∃ m, k = m + 1 := ⟨k - 1, by omega⟩
    have hlt : i < l.length := by omega
    have e : rd l (i : Int) = l[i] := by
      unfold rd
      rw [Int.toNat_natCast, List.getD_eq_getElem?_getD, List.getElem?_eq_getElem hlt]; rfl
    rw [spec_l1All.l0, if_pos (by omega), if_pos (by omega), if_pos (by omega), l1In_f, e]
    simp only [bs]
    rw [List.drop_eq_getElem_cons hlt]
    by_cases h : a ≤ l[i] ∧ l[i] ≤ b
    · rw [decide_eq_true h, if_pos rfl, show ((i : Int) + 1) = ((i + 1 : Nat) : Int) from rfl, wrapn _ (by omega), ih (i + 1) k (by omega) (by omega)]
      congr 1
      rw [decide_eq_decide, List.forall_mem_cons]
      exact ⟨fun hh => ⟨h, hh⟩, fun hh => hh.2⟩
    · rw [decide_eq_false h, if_neg (by decide)]
      congr 1
      symm
      rw [decide_eq_false_iff_not]
      exact fun hh => h (hh _ (List.mem_cons_self ..))
theorem l1All_f (l : List Int) (a b : Int) (hl : l.length < 2 ^ 62) (k : Nat) (hk : l.length < k) : spec_l1All.f k l a b = some (decide (∀ x ∈ l, a ≤ x ∧ x ≤ b)) := by
  unfold spec_l1All.f
  exact l1All_l l a b hl l.length 0 k (by omega) hk
theorem toInt_l (l : List Int) (hl : l.length < 2 ^ 40) : ∀ n i k, i + n = l.length → n < k → laws_toIntS.l0 k l (l.take i ++ List.replicate n 0) (i : Int) = some l := by
  intro n
  induction n with
  | zero =>
    intro i k hi hk
    obtain ⟨k, rfl⟩ : ∃ m, k = m + 1 := ⟨k - 1, by omega⟩
    rw [laws_toIntS.l0, if_neg (by omega), List.replicate_zero, List.append_nil, show i = l.length by omega, List.take_length]
  | succ n ih =>
    intro i k hi hk
    obtain ⟨k, rfl⟩ : ∃ m, k = m + 1 := ⟨k - 1, by omega⟩
    have hlt : i < l.length := by omega
    have e : rd l (i : Int) = l[i] := by
      unfold rd
      rw [Int.toNat_natCast, List.getD_eq_getElem?_getD, List.getElem?_eq_getElem hlt]; rfl
    have ht : (l.take i).length = i := by rw [List.length_take]; omega
    rw [laws_toIntS.l0, if_pos (by omega), if_pos (by omega), if_pos (by rw [List.length_append, ht, List.length_replicate]; omega), e, Int.toNat_natCast, List.set_append_right _ _ (by omega), ht, Nat.sub_self, List.replicate_succ, List.set_cons_zero, show ((i : Int) + 1) = ((i + 1 : Nat) : Int) from rfl, wrapn _ (by omega)]
    have := ih (i + 1) k (by omega) (by omega)
    rw [List.take_succ_eq_append_getElem hlt, List.append_assoc] at this
    exact this
/-- The copy that a law makes of a list. -/
theorem toInt_f (l : List Int) (hl : l.length < 2 ^ 40) (k : Nat) (hk : l.length < k) : laws_toIntS.f k l = some l := by
  unfold laws_toIntS.f
  rw [if_pos (Int.natCast_nonneg _), Int.toNat_natCast, if_pos (by omega)]
  exact toInt_l l hl l.length 0 k (by omega) hk
theorem toGraph_f (l : List Int) (own : Bool) (hl : l.length < 2 ^ 40) (k : Nat) (hk : l.length < k) : laws_toGraph.f k l own = some (l, own) := by
  unfold laws_toGraph.f
  rw [toInt_f l hl k hk]
  simp only [bs]
theorem eqGraph_self (l : List Int) (own : Bool) (hl : l.length < 2 ^ 62) (k : Nat) (hk : l.length < k) : laws_eqGraph.f k l own l own = some true := by
  unfold laws_eqGraph.f
  rw [eqIntS_self l hl k hk]
  simp only [bs, if_true, bne_self_eq_false, Bool.false_eq_true, if_false]
theorem szInt_f (l : List Int) (left : Int) (hl : l.length ≤ maxLen) (h0 : 0 ≤ left) (h2 : left ≤ 1048576) : laws_szIntS.f l left = some (if left < (l.length : Int) then -1 else left - (l.length : Int)) := by
  have e : wrap64 (left - (l.length : Int)) = left - (l.length : Int) := by unfold maxLen at hl; unfold wrap64; omega
  unfold laws_szIntS.f
  rw [e]
  by_cases h : left < (l.length : Int)
  · rw [if_pos (by omega), if_pos h]
  · rw [if_neg (by omega), if_neg h]
theorem szGraph_f (l : List Int) (own : Bool) (left : Int) (hl : l.length ≤ maxLen) (h0 : 0 ≤ left) (h2 : left ≤ 1048576) : laws_szGraph.f l own left = some (if left < (l.length : Int) then -1 else left - (l.length : Int)) := by
  unfold laws_szGraph.f
  rw [szInt_f l left hl h0 h2]
  simp only [bs]
  by_cases h : left < (l.length : Int)
  · rw [if_pos h, if_pos (by decide)]
  · rw [if_neg h, if_neg (by omega)]
theorem grSet_f (l : List Int) (own : Bool) (a : Int) : spec_grSet.f l own a = some (goodB l && decide (0 ≤ a ∧ a ≤ ((2 ^ l.length - 1 : Nat) : Int))) := by
  unfold spec_grSet.f spec_grGood.f
  simp only [bs]
  cases h : goodB l with
  | false => rw [if_neg (by decide)]; rfl
  | true =>
    have h1 := ((goodB_iff l).1 h).1
    rw [if_pos rfl, wholen _ (by omega), l1In_f]
    simp only [bs, Bool.true_and]
theorem isSet_one (l : List Int) (own : Bool) (a : Int) : impl_isSet.f l own [a] = some (goodB l && decide (0 ≤ a ∧ a ≤ ((2 ^ l.length - 1 : Nat) : Int))) := by
  unfold impl_isSet.f noSet
  simp only [List.any_cons, List.any_nil, Bool.or_false, Bool.not_not]
theorem isSet_two (l : List Int) (own : Bool) (a b : Int) : impl_isSet.f l own [a, b] = some (goodB l && (decide (0 ≤ a ∧ a ≤ ((2 ^ l.length - 1 : Nat) : Int)) && decide (0 ≤ b ∧ b ≤ ((2 ^ l.length - 1 : Nat) : Int)))) := by
  unfold impl_isSet.f noSet
  simp only [List.any_cons, List.any_nil, Bool.or_false, Bool.not_not, Bool.not_or]
theorem grButton_f (l : List Int) (own : Bool) (a : Int) : spec_grButton.f l own a = some (goodB l && decide (0 ≤ a ∧ a ≤ (l.length : Int) - 1)) := by
  unfold spec_grButton.f spec_grGood.f
  simp only [bs]
  cases h : goodB l with
  | false => rw [if_neg (by decide)]; rfl
  | true =>
    have h1 := ((goodB_iff l).1 h).1
    rw [if_pos rfl, wrapi (n := (l.length : Int) - 1) (by omega) (by omega), l1In_f]
    simp only [bs, Bool.true_and]
theorem hasButton_one (l : List Int) (own : Bool) (a : Int) : impl_hasButton.f l own [a] = some (goodB l && decide (0 ≤ a ∧ a ≤ (l.length : Int) - 1)) := by
  unfold impl_hasButton.f noButton
  simp only [List.any_cons, List.any_nil, Bool.or_false, Bool.not_not]
theorem hasButton_all (l : List Int) (own : Bool) (l2 : List Int) : impl_hasButton.f l own l2 = some (goodB l && decide (∀ x ∈ l2, 0 ≤ x ∧ x ≤ (l.length : Int) - 1)) := by
  unfold impl_hasButton.f noButton
  congr 1
  congr 1
  rw [Bool.eq_iff_iff]
  simp
theorem grTog_f (m : List Nat) (hg : GoodG m) (own : Bool) (i : Nat) (hi : i < m.length) : spec_grToggles.f (zs m) own (i : Int) = some ((tgl m own i : Nat) : Int) := by
  have h1 := hg.bound i
  have h2 := hg.le
  have h3 : 2 ^ i < 2 ^ 63 := pow63 (by omega)
  unfold spec_grToggles.f tgl
  cases own with
  | true => rw [if_pos rfl, if_pos (Int.natCast_nonneg _), if_pos (by rw [zs_length]; omega), rd_nth, shl1 i (by omega), orn _ _ (by omega) h3]; rfl
  | false => rw [if_neg (by decide), if_pos (Int.natCast_nonneg _), if_pos (by rw [zs_length]; omega), rd_nth]; rfl
theorem tog_f (m : List Nat) (hg : GoodG m) (own : Bool) (i : Nat) (hi : i < m.length) : impl_Graph_toggles.f (zs m) own (i : Int) = some ((tgl m own i : Nat) : Int) := by
  have h1 := hg.bound i
  have h2 := hg.le
  have h3 : 2 ^ i < 2 ^ 63 := pow63 (by omega)
  unfold impl_Graph_toggles.f tgl
  cases own with
  | true => rw [if_pos rfl, if_pos (Int.natCast_nonneg _), if_pos (by rw [zs_length]; omega), rd_nth, shl1 i (by omega), orn _ _ (by omega) h3]; rfl
  | false => rw [if_neg (by decide), if_pos (Int.natCast_nonneg _), if_pos (by rw [zs_length]; omega), rd_nth]; rfl
/-- What the presses of a word come to. -/
def wordEff (m : List Nat) (own : Bool) (a : Nat) (ws : List Int) : Nat := ws.foldl (fun a w => a ^^^ tgl m own w.toNat) a
theorem word_at (m : List Nat) (ws : List Int) (hw : ∀ x ∈ ws, 0 ≤ x ∧ x ≤ (m.length : Int) - 1) (i : Nat) (hi : i < ws.length) : ∃ j : Nat, j < m.length ∧ rd ws (i : Int) = (j : Int) ∧ ws.drop i = (j : Int) :: ws.drop (i + 1) := by
  have e : rd ws (i : Int) = ws[i] := by
    unfold rd
    rw [Int.toNat_natCast, List.getD_eq_getElem?_getD, List.getElem?_eq_getElem hi]; rfl
  obtain ⟨h1, h2⟩ := hw ws[i] (List.getElem_mem hi)
  refine ⟨ws[i].toNat, by omega, by rw [e]; omega, ?_⟩
  rw [List.drop_eq_getElem_cons hi]
  congr 1
  omega
theorem iword_l (m : List Nat) (hg : GoodG m) (own : Bool) (ws : List Int) (hw : ∀ x ∈ ws, 0 ≤ x ∧ x ≤ (m.length : Int) - 1) (hl : ws.length < 2 ^ 40) : ∀ n i k (a : Nat), i + n = ws.length → n < k → a < 2 ^ 16 → impl_PressWord.l0 k (a : Int) ws (ws.length : Int) (i : Int) (zs m) own = some (((wordEff m own a (ws.drop i) : Nat) : Int), true) := by
  have h3 := pow16 hg
  intro n
  induction n with
  | zero =>
    intro i k a hi hk _
    obtain ⟨k, rfl⟩ : ∃ m, k = m + 1 := ⟨k - 1, by omega⟩
    rw [impl_PressWord.l0, if_neg (by omega), show ws.drop i = [] from List.drop_eq_nil_of_le (by omega)]; rfl
  | succ n ih =>
    intro i k a hi hk ha
    obtain ⟨k, rfl⟩ : ∃ m, k = m + 1 := ⟨k - 1, by omega⟩
    obtain ⟨j, hj, e1, e2⟩ := word_at m ws hw i (by omega)
    have h2 := tgl_lt hg own hj
    rw [impl_PressWord.l0, if_pos (by omega), if_pos (by omega), if_pos (by omega), e1, tog_f m hg own j hj]
    simp only [bs]
    rw [xorn _ _ (by omega) (by omega), show ((i : Int) + 1) = ((i + 1 : Nat) : Int) from rfl, wrapn _ (by omega), ih (i + 1) k _ (by omega) (by omega) (Nat.xor_lt_two_pow ha (by omega)), e2]
    rfl

end Go.Proofs.Ytgljddfglidjpaa.LemFnExactPressButton
