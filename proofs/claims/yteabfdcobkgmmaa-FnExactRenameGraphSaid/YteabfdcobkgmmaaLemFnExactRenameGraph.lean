/- Lemmas on the printed functions of FnExactRenameGraph: what loops and calls come to, at natural numbers in range. -/
import Derived.Test.YteabfdcobkgmmaaPFnExactRenameGraphx
import Derived.Test.YteabfdcobkgmmaaBit
import Derived.Test.YteabfdcobkgmmaaGra
import Derived.Test.YteabfdcobkgmmaaRow
namespace Go.Proofs.Yteabfdcobkgmmaa.LemFnExactRenameGraph
open Go.RowKit Go.Proofs.Yteabfdcobkgmmaa.PFnExactRenameGraph Go.Proofs.YteabfdcobkgmmaaW.PrintWords Go.Proofs.YteabfdcobkgmmaaW.PrintLast Go.Proofs.Yteabfdcobkgmmaa.Bit Go.Proofs.Yteabfdcobkgmmaa.Row Go.Proofs.Yteabfdcobkgmmaa.Lin Go.Proofs.Yteabfdcobkgmmaa.Gra

theorem eqIntS_l (l : List Int) (hl : l.length < 2 ^ 62) : ∀ n i k, i + n = l.length → n < k → laws_eqIntS.l0 k l l (i : Int) = some true := by
  intro n
  induction n with
  | zero =>
    intro i k hi hk
    obtain ⟨k, rfl⟩ : ∃ m, k = m + 1 := ⟨k - 1, by omega⟩
    rw [laws_eqIntS.l0, if_neg (by omega)]
  | succ n ih =>
    intro i k hi hk
    obtain ⟨k, rfl⟩ : ∃ m, k = m + 1 := ⟨k - 1, by omega⟩
    rw [laws_eqIntS.l0, if_pos (by omega), if_pos (by omega), if_pos (by omega), if_pos rfl, show ((i : Int) + 1) = ((i + 1 : Nat) : Int) from rfl, wrapn _ (by omega)]
    exact ih (i + 1) k (by omega) (by omega)
/-- A list is equal to itself. -/
theorem eqIntS_self (l : List Int) (hl : l.length < 2 ^ 62) (k : Nat) (hk : l.length < k) : laws_eqIntS.f k l l = some true := by
  unfold laws_eqIntS.f
  rw [if_pos rfl]
  exact eqIntS_l l hl l.length 0 k (by omega) hk
/-- 1, 2, .., n. -/
def marks (n : Nat) : List Int := (List.range n).map fun i => ((i + 1 : Nat) : Int)
theorem marks_length (n : Nat) : (marks n).length = n := by simp [marks]
theorem marks_succ (n : Nat) : marks (n + 1) = marks n ++ [((n + 1 : Nat) : Int)] := by simp [marks, List.range_succ]
theorem marks_rd (n i : Nat) (h : i < n) : rd (marks n) (i : Int) = ((i + 1 : Nat) : Int) := by
  unfold rd marks
  rw [Int.toNat_natCast, List.getD_eq_getElem?_getD, List.getElem?_map, List.getElem?_range h]; rfl
theorem mark_set (l : List Int) (i : Nat) (h : i < l.length) : (marks i ++ l.drop i).set i ((i + 1 : Nat) : Int) = marks (i + 1) ++ l.drop (i + 1) := by
  rw [List.set_append_right _ _ (by rw [marks_length]; omega), marks_length, Nat.sub_self, List.drop_eq_getElem_cons h, List.set_cons_zero, marks_succ, List.append_assoc]; rfl
theorem mark_l (l : List Int) (hl : l.length < 2 ^ 62) : ∀ n i k, i + n = l.length → n < k → laws_markIntS.l0 k (marks i ++ l.drop i) ((i + 1 : Nat) : Int) (i : Int) = some (((l.length + 1 : Nat) : Int), marks l.length) := by
  intro n
  induction n with
  | zero =>
    intro i k hi hk
    obtain ⟨k, rfl⟩ : ∃ m, k = m + 1 := ⟨k - 1, by omega⟩
    obtain rfl : i = l.length := by omega
    rw [laws_markIntS.l0, if_neg (by simp [marks_length]), List.drop_length, List.append_nil]
  | succ n ih =>
    intro i k hi hk
    obtain ⟨k, rfl⟩ : ∃ m, k = m + 1 := ⟨k - 1, by omega⟩
    rw [laws_markIntS.l0, if_pos (by simp [marks_length]; omega), if_pos (by omega), Int.toNat_natCast, mark_set l i (by omega), show ((i + 1 : Nat) : Int) + 1 = ((i + 1 + 1 : Nat) : Int) from rfl, show ((i : Int) + 1) = ((i + 1 : Nat) : Int) from rfl, wrapn _ (by omega), wrapn _ (by omega)]
    exact ih (i + 1) k (by omega) (by omega)
theorem mark_any (l : List Int) (hl : l.length < 2 ^ 62) (k : Nat) (hk : l.length < k) : laws_markIntS.f k l 1 = some (((l.length + 1 : Nat) : Int), marks l.length) := by
  have := mark_l l hl l.length 0 k (by omega) hk
  unfold laws_markIntS.f
  simpa [marks] using this
theorem held_l (m : Nat) (hm : m < 2 ^ 62) : ∀ n i k, i + n = m → n < k → laws_heldIntS.l0 k (marks m) ((i + 1 : Nat) : Int) (i : Int) = some ((m + 1 : Nat) : Int) := by
  intro n
  induction n with
  | zero =>
    intro i k hi hk
    obtain ⟨k, rfl⟩ : ∃ m, k = m + 1 := ⟨k - 1, by omega⟩
    obtain rfl : i = m := by omega
    rw [laws_heldIntS.l0, if_neg (by rw [marks_length]; omega)]
  | succ n ih =>
    intro i k hi hk
    obtain ⟨k, rfl⟩ : ∃ m, k = m + 1 := ⟨k - 1, by omega⟩
    rw [laws_heldIntS.l0, if_pos (by rw [marks_length]; omega), if_pos (by omega), if_pos (marks_rd m i (by omega)), show ((i + 1 : Nat) : Int) + 1 = ((i + 1 + 1 : Nat) : Int) from rfl, show ((i : Int) + 1) = ((i + 1 : Nat) : Int) from rfl, wrapn _ (by omega), wrapn _ (by omega)]
    exact ih (i + 1) k (by omega) (by omega)
theorem held_any (m : Nat) (hm : m < 2 ^ 62) (k : Nat) (hk : m < k) : laws_heldIntS.f k (marks m) 1 = some ((m + 1 : Nat) : Int) :=
  held_l m hm m 0 k (by omega) hk
theorem whole_f (c : Nat) (h : c < 63) : impl_whole.f (c : Int) = some ((2 ^ c - 1 : Nat) : Int) := by
  unfold impl_whole.f
  rw [if_pos (Int.natCast_nonneg _), wholen c h]
theorem in_f (a b c : Int) : impl_in.f a b c = some (decide (b ≤ a ∧ a ≤ c)) := by
  unfold impl_in.f
  split
  · rename_i h; simp [h]
  · rename_i h; simp [h]
theorem l1In_f (a b c : Int) : spec_l1In.f a b c = some (decide (b ≤ a ∧ a ≤ c)) := by
  unfold spec_l1In.f
  split
  · rename_i h; simp [show b ≤ a from h]
  · rename_i h; simp [show ¬ b ≤ a from h]
theorem has_f (x i : Nat) (hx : x < 2 ^ 63) : impl_has.f (x : Int) (i : Int) = some (x.testBit i) := by
  unfold impl_has.f
  rw [if_pos (Int.natCast_nonneg _), shrn x i hx, show (1 : Int) = ((1 : Nat) : Int) from rfl, andn _ _ (Nat.lt_of_le_of_lt (Nat.div_le_self _ _) hx) (by decide), Nat.and_one_is_mod, Nat.testBit_eq_decide_div_mod_eq]
  congr 1
  rcases Nat.mod_two_eq_zero_or_one (x / 2 ^ i) with h | h <;> rw [h] <;> rfl
theorem grIn_f (x i : Nat) (hx : x < 2 ^ 63) : spec_grIn.f (x : Int) (i : Int) = some (x.testBit i) := by
  unfold spec_grIn.f
  rw [if_pos (Int.natCast_nonneg _), shrn x i hx, Nat.testBit_eq_decide_div_mod_eq]
  congr 1
  have e : Int.tmod ((x / 2 ^ i : Nat) : Int) 2 = ((x / 2 ^ i % 2 : Nat) : Int) := rfl
  rw [e]
  rcases Nat.mod_two_eq_zero_or_one (x / 2 ^ i) with h | h <;> rw [h] <;> rfl
theorem l1All_l (l : List Int) (a b : Int) (hl : l.length < 2 ^ 62) : ∀ n i k, i + n = l.length → n < k → spec_l1All.l0 k a b l (l.length : Int) (i : Int) = some (decide (∀ x ∈ l.drop i, a ≤ x ∧ x ≤ b)) := by
  intro n
  induction n with
  | zero =>
    intro i k hi hk
    obtain ⟨k, rfl⟩ : ∃ m, k = m + 1 := ⟨k - 1, by omega⟩
    rw [spec_l1All.l0, if_neg (by omega), show l.drop i = [] from List.drop_eq_nil_of_le (by omega)]
    simp
  | succ n ih =>
    intro i k hi hk
    obtain ⟨k, rfl⟩ : ∃ m, k = m + 1 := ⟨k - 1, by omega⟩
    have hlt : i < l.length := by omega
    have e : rd l (i : Int) = l[i] := by
      unfold rd
      rw [Int.toNat_natCast, List.getD_eq_getElem?_getD, List.getElem?_eq_getElem hlt]; rfl
    rw [spec_l1All.l0, if_pos (by omega), if_pos (by omega), if_pos (by omega), l1In_f, e]
    simp only [bs]
    rw [List.drop_eq_getElem_cons hlt]
    by_cases h : a ≤ l[i] ∧ l[i] ≤ b
    · rw [decide_eq_true h, if_pos rfl, show ((i : Int) + 1) = ((i + 1 : Nat) : Int) from rfl, wrapn _ (by omega), ih (i + 1) k (by omega) (by omega)]
      congr 1
      rw [decide_eq_decide, List.forall_mem_cons]
      exact ⟨fun hh => ⟨h, hh⟩, fun hh => hh.2⟩
    · rw [decide_eq_false h, if_neg (by decide)]
      congr 1
      symm
      rw [decide_eq_false_iff_not]
      exact fun hh => h (hh _ (List.mem_cons_self ..))
theorem l1All_f (l : List Int) (a b : Int) (hl : l.length < 2 ^ 62) (k : Nat) (hk : l.length < k) : spec_l1All.f k l a b = some (decide (∀ x ∈ l, a ≤ x ∧ x ≤ b)) := by
  unfold spec_l1All.f
  exact l1All_l l a b hl l.length 0 k (by omega) hk
theorem toInt_l (l : List Int) (hl : l.length < 2 ^ 40) : ∀ n i k, i + n = l.length → n < k → laws_toIntS.l0 k l (l.take i ++ List.replicate n 0) (i : Int) = some l := by
  intro n
  induction n with
  | zero =>
    intro i k hi hk
    obtain ⟨k, rfl⟩ : ∃ m, k = m + 1 := ⟨k - 1, by omega⟩
    rw [laws_toIntS.l0, if_neg (by omega), List.replicate_zero, List.append_nil, show i = l.length by omega, List.take_length]
  | succ n ih =>
    intro i k hi hk
    obtain ⟨k, rfl⟩ : ∃ m, k = m + 1 := ⟨k - 1, by omega⟩
    have hlt : i < l.length := by omega
    have e : rd l (i : Int) = l[i] := by
      unfold rd
      rw [Int.toNat_natCast, List.getD_eq_getElem?_getD, List.getElem?_eq_getElem hlt]; rfl
    have ht : (l.take i).length = i := by rw [List.length_take]; omega
    rw [laws_toIntS.l0, if_pos (by omega), if_pos (by omega), if_pos (by rw [List.length_append, ht, List.length_replicate]; omega), e, Int.toNat_natCast, List.set_append_right _ _ (by omega), ht, Nat.sub_self, List.replicate_succ, List.set_cons_zero, show ((i : Int) + 1) = ((i + 1 : Nat) : Int) from rfl, wrapn _ (by omega)]
    have := ih (i + 1) k (by omega) (by omega)
    rw [List.take_succ_eq_append_getElem hlt, List.append_assoc] at this
    exact this
/-- The copy that a law makes of a list. -/
theorem toInt_f (l : List Int) (hl : l.length < 2 ^ 40) (k : Nat) (hk : l.length < k) : laws_toIntS.f k l = some l := by
  unfold laws_toIntS.f
  rw [if_pos (Int.natCast_nonneg _), Int.toNat_natCast, if_pos (by omega)]
  exact toInt_l l hl l.length 0 k (by omega) hk
theorem toGraph_f (l : List Int) (own : Bool) (hl : l.length < 2 ^ 40) (k : Nat) (hk : l.length < k) : laws_toGraph.f k l own = some (l, own) := by
  unfold laws_toGraph.f
  rw [toInt_f l hl k hk]
  simp only [bs]
theorem eqGraph_self (l : List Int) (own : Bool) (hl : l.length < 2 ^ 62) (k : Nat) (hk : l.length < k) : laws_eqGraph.f k l own l own = some true := by
  unfold laws_eqGraph.f
  rw [eqIntS_self l hl k hk]
  simp only [bs, if_true, bne_self_eq_false, Bool.false_eq_true, if_false]
theorem szInt_f (l : List Int) (left : Int) (hl : l.length ≤ maxLen) (h0 : 0 ≤ left) (h2 : left ≤ 1048576) : laws_szIntS.f l left = some (if left < (l.length : Int) then -1 else left - (l.length : Int)) := by
  have e : wrap64 (left - (l.length : Int)) = left - (l.length : Int) := by unfold maxLen at hl; unfold wrap64; omega
  unfold laws_szIntS.f
  rw [e]
  by_cases h : left < (l.length : Int)
  · rw [if_pos (by omega), if_pos h]
  · rw [if_neg (by omega), if_neg h]
theorem szGraph_f (l : List Int) (own : Bool) (left : Int) (hl : l.length ≤ maxLen) (h0 : 0 ≤ left) (h2 : left ≤ 1048576) : laws_szGraph.f l own left = some (if left < (l.length : Int) then -1 else left - (l.length : Int)) := by
  unfold laws_szGraph.f
  rw [szInt_f l left hl h0 h2]
  simp only [bs]
  by_cases h : left < (l.length : Int)
  · rw [if_pos h, if_pos (by decide)]
  · rw [if_neg h, if_neg (by omega)]
theorem markGraph_any (l : List Int) (own : Bool) (hl : l.length < 2 ^ 62) (k : Nat) (hk : l.length < k) : laws_markGraph.f k l own 1 = some (((l.length + 1 : Nat) : Int), marks l.length) := by
  unfold laws_markGraph.f
  rw [mark_any l hl k hk]
  simp only [bs]
theorem heldGraph_any (m : Nat) (own : Bool) (hm : m < 2 ^ 62) (k : Nat) (hk : m < k) : laws_heldGraph.f k (marks m) own 1 = some ((m + 1 : Nat) : Int) := by
  unfold laws_heldGraph.f
  rw [held_any m hm k hk]
  simp only [bs]
  rw [if_neg (by omega)]
/-- s, s + 1, .., n of them. -/
def seqs (s n : Nat) : List Int := (List.range n).map fun i => ((s + i : Nat) : Int)
theorem seqs_length (s n : Nat) : (seqs s n).length = n := by simp [seqs]
theorem seqs_succ (s n : Nat) : seqs s (n + 1) = seqs s n ++ [((s + n : Nat) : Int)] := by simp [seqs, List.range_succ]
theorem seqs_rd (s n i : Nat) (h : i < n) : rd (seqs s n) (i : Int) = ((s + i : Nat) : Int) := by
  unfold rd seqs
  rw [Int.toNat_natCast, List.getD_eq_getElem?_getD, List.getElem?_map, List.getElem?_range h]; rfl
theorem seqs_set (s : Nat) (l : List Int) (i : Nat) (h : i < l.length) : (seqs s i ++ l.drop i).set i ((s + i : Nat) : Int) = seqs s (i + 1) ++ l.drop (i + 1) := by
  rw [List.set_append_right _ _ (by rw [seqs_length]; omega), seqs_length, Nat.sub_self, List.drop_eq_getElem_cons h, List.set_cons_zero, seqs_succ, List.append_assoc]; rfl
theorem markN_l (s : Nat) (l : List Int) (hl : l.length < 2 ^ 61) (hs : s < 2 ^ 61) : ∀ n i k, i + n = l.length → n < k → laws_markIntS.l0 k (seqs s i ++ l.drop i) ((s + i : Nat) : Int) (i : Int) = some (((s + l.length : Nat) : Int), seqs s l.length) := by
  intro n
  induction n with
  | zero =>
    intro i k hi hk
    obtain ⟨k, rfl⟩ : ∃ m, k = m + 1 := ⟨k - 1, by omega⟩
    obtain rfl : i = l.length := by omega
    rw [laws_markIntS.l0, if_neg (by simp [seqs_length]), List.drop_length, List.append_nil]
  | succ n ih =>
    intro i k hi hk
    obtain ⟨k, rfl⟩ : ∃ m, k = m + 1 := ⟨k - 1, by omega⟩
    rw [laws_markIntS.l0, if_pos (by simp [seqs_length]; omega), if_pos (by omega), Int.toNat_natCast, seqs_set s l i (by omega), show ((s + i : Nat) : Int) + 1 = ((s + (i + 1) : Nat) : Int) from rfl, show ((i : Int) + 1) = ((i + 1 : Nat) : Int) from rfl, wrapn _ (by omega), wrapn _ (by omega)]
    exact ih (i + 1) k (by omega) (by omega)
theorem markN_f (s : Nat) (l : List Int) (hl : l.length < 2 ^ 61) (hs : s < 2 ^ 61) (k : Nat) (hk : l.length < k) : laws_markIntS.f k l (s : Int) = some (((s + l.length : Nat) : Int), seqs s l.length) := by
  have := markN_l s l hl hs l.length 0 k (by omega) hk
  unfold laws_markIntS.f
  simpa [seqs] using this
theorem heldN_l (s m : Nat) (hm : m < 2 ^ 61) (hs : s < 2 ^ 61) : ∀ n i k, i + n = m → n < k → laws_heldIntS.l0 k (seqs s m) ((s + i : Nat) : Int) (i : Int) = some ((s + m : Nat) : Int) := by
  intro n
  induction n with
  | zero =>
    intro i k hi hk
    obtain ⟨k, rfl⟩ : ∃ m, k = m + 1 := ⟨k - 1, by omega⟩
    obtain rfl : i = m := by omega
    rw [laws_heldIntS.l0, if_neg (by rw [seqs_length]; omega)]
  | succ n ih =>
    intro i k hi hk
    obtain ⟨k, rfl⟩ : ∃ m, k = m + 1 := ⟨k - 1, by omega⟩
    rw [laws_heldIntS.l0, if_pos (by rw [seqs_length]; omega), if_pos (by omega), if_pos (seqs_rd s m i (by omega)), show ((s + i : Nat) : Int) + 1 = ((s + (i + 1) : Nat) : Int) from rfl, show ((i : Int) + 1) = ((i + 1 : Nat) : Int) from rfl, wrapn _ (by omega), wrapn _ (by omega)]
    exact ih (i + 1) k (by omega) (by omega)
theorem heldN_f (s m : Nat) (hm : m < 2 ^ 61) (hs : s < 2 ^ 61) (k : Nat) (hk : m < k) : laws_heldIntS.f k (seqs s m) (s : Int) = some ((s + m : Nat) : Int) := by
  unfold laws_heldIntS.f
  exact heldN_l s m hm hs m 0 k (by omega) hk
theorem markNG_f (s : Nat) (l : List Int) (o : Bool) (hl : l.length < 2 ^ 61) (hs : s < 2 ^ 61) (k : Nat) (hk : l.length < k) : laws_markGraph.f k l o (s : Int) = some (((s + l.length : Nat) : Int), seqs s l.length) := by
  unfold laws_markGraph.f
  rw [markN_f s l hl hs k hk]
  simp only [bs]
theorem heldNG_f (s m : Nat) (o : Bool) (hm : m < 2 ^ 61) (hs : s < 2 ^ 61) (k : Nat) (hk : m < k) : laws_heldGraph.f k (seqs s m) o (s : Int) = some ((s + m : Nat) : Int) := by
  unfold laws_heldGraph.f
  rw [heldN_f s m hm hs k hk]
  simp only [bs]
  rw [if_neg (by omega)]
/-- The edges of button i to the last d buttons. -/
def eIn (m : List Nat) (i : Nat) : Nat → List (List Int)
  | 0 => []
  | d + 1 => if (nth m i).testBit (m.length - (d + 1)) = true then [(i : Int), ((m.length - (d + 1) : Nat) : Int)] :: eIn m i d else eIn m i d
/-- The edges of the last d buttons to the ones behind. -/
def eOut (m : List Nat) : Nat → List (List Int)
  | 0 => []
  | d + 1 => eIn m (m.length - (d + 1)) d ++ eOut m d
/-- An edge of n buttons. -/
def Edge (n : Nat) (e : List Int) : Prop := ∃ a b : Nat, e = [(a : Int), (b : Int)] ∧ a < n ∧ b < n
theorem eIn_len (m : List Nat) (i : Nat) : ∀ d, (eIn m i d).length ≤ d
  | 0 => Nat.le_refl _
  | d + 1 => by
    have := eIn_len m i d
    unfold eIn
    split
    · rw [List.length_cons]; omega
    · omega
theorem eIn_edge (m : List Nat) (i : Nat) (hi : i < m.length) : ∀ d, d ≤ m.length → ∀ e ∈ eIn m i d, Edge m.length e
  | 0, _ => fun e h => (by cases h)
  | d + 1, hd => by
    intro e h
    unfold eIn at h
    split at h
    · rcases List.mem_cons.1 h with rfl | h
      · exact ⟨i, m.length - (d + 1), rfl, hi, by omega⟩
      · exact eIn_edge m i hi d (by omega) e h
    · exact eIn_edge m i hi d (by omega) e h
theorem eOut_edge (m : List Nat) : ∀ d, d ≤ m.length → ∀ e ∈ eOut m d, Edge m.length e
  | 0, _ => fun e h => (by cases h)
  | d + 1, hd => by
    intro e h
    unfold eOut at h
    rcases List.mem_append.1 h with h | h
    · exact eIn_edge m _ (by omega) d (by omega) e h
    · exact eOut_edge m d (by omega) e h
theorem eOut_len (m : List Nat) : ∀ d, d ≤ 16 → (eOut m d).length ≤ d * 16
  | 0, _ => Nat.le_refl _
  | d + 1, h => by
    have h1 := eOut_len m d (by omega)
    have h2 := eIn_len m (m.length - (d + 1)) d
    unfold eOut
    rw [List.length_append]; omega
theorem sEdg1 (m : List Nat) (hm : Gra.Good m) (own : Bool) (K d : Nat) (hd : d < m.length) (acc0 : Nat)
    (H : ∀ k acc, K ≤ k → acc.length ≤ acc0 → spec_grEdges.l0 k acc (zs m) (m.length : Int) ((m.length - d : Nat) : Int) (zs m) own = some (acc ++ eOut m d)) :
    ∀ e, e ≤ d → ∀ k acc, K + e + 1 ≤ k → acc.length + e ≤ acc0 → acc0 ≤ 2000 → spec_grEdges.l1 k acc ((m.length - (d + 1) : Nat) : Int) ((nth m (m.length - (d + 1)) : Nat) : Int) ((m.length - e : Nat) : Int) (zs m) (m.length : Int) ((m.length - (d + 1) : Nat) : Int) (zs m) own = some (acc ++ (eIn m (m.length - (d + 1)) e ++ eOut m d)) := by
  intro e
  induction e with
  | zero =>
    intro _ k acc hk ha _
    obtain ⟨k, rfl⟩ : ∃ m, k = m + 1 := ⟨k - 1, by omega⟩
    rw [spec_grEdges.l1, if_neg (by rw [zs_length]; omega), show ((m.length - (d + 1) : Nat) : Int) + 1 = ((m.length - d : Nat) : Int) by omega, wrapn _ (by have := hm.le; omega), H k acc (by omega) (by omega)]
    rfl
  | succ e ih =>
    intro he k acc hk ha h0
    obtain ⟨k, rfl⟩ : ∃ m, k = m + 1 := ⟨k - 1, by omega⟩
    have e1 : ((m.length - (e + 1) : Nat) : Int) + 1 = ((m.length - e : Nat) : Int) := by omega
    rw [spec_grEdges.l1, if_pos (by rw [zs_length]; omega), grIn_f _ _ (Nat.lt_trans (hm.bound _) (by decide)), e1, wrapn _ (by have := hm.le; omega)]
    simp only [bs]
    unfold eIn
    by_cases hb : (nth m (m.length - (d + 1))).testBit (m.length - (e + 1)) = true
    · rw [if_pos hb, if_pos hb, if_pos (by omega), ih (by omega) k _ (by omega) (by rw [List.length_append, List.length_singleton]; omega) h0, List.append_assoc]; rfl
    · rw [if_neg hb, if_neg hb, ih (by omega) k acc (by omega) (by omega) h0]
theorem sEdg0 (m : List Nat) (hm : Gra.Good m) (own : Bool) : ∀ d, d ≤ m.length → ∀ k acc, 40 * (d + 1) ≤ k → acc.length ≤ 1000 - 20 * d → spec_grEdges.l0 k acc (zs m) (m.length : Int) ((m.length - d : Nat) : Int) (zs m) own = some (acc ++ eOut m d) := by
  intro d
  induction d with
  | zero =>
    intro _ k acc hk _
    obtain ⟨k, rfl⟩ : ∃ m, k = m + 1 := ⟨k - 1, by omega⟩
    rw [spec_grEdges.l0, if_neg (by omega), eOut, List.append_nil]
  | succ d ih =>
    intro hd k acc hk ha
    have h16 := hm.le
    obtain ⟨k, rfl⟩ : ∃ m, k = m + 1 := ⟨k - 1, by omega⟩
    have e1 : ((m.length - (d + 1) : Nat) : Int) + 1 = ((m.length - d : Nat) : Int) := by omega
    rw [spec_grEdges.l0, if_pos (by omega), if_pos (by omega), if_pos (by rw [zs_length]; omega), rd_nth, e1, wrapn _ (by omega), sEdg1 m hm own (40 * (d + 1)) d (by omega) (1000 - 20 * d) (fun k acc hk ha => ih (by omega) k acc hk ha) d (Nat.le_refl _) k acc (by omega) (by omega) (by omega)]
    rfl
theorem iEdg1 (m : List Nat) (hm : Gra.Good m) (own : Bool) (K d : Nat) (hd : d < m.length) (acc0 : Nat)
    (H : ∀ k acc, K ≤ k → acc.length ≤ acc0 → impl_Graph_edges.l0 k acc (zs m) (m.length : Int) ((m.length - d : Nat) : Int) (zs m) own = some (acc ++ eOut m d)) :
    ∀ e, e ≤ d → ∀ k acc, K + e + 1 ≤ k → acc.length + e ≤ acc0 → acc0 ≤ 2000 → impl_Graph_edges.l1 k acc ((m.length - (d + 1) : Nat) : Int) ((nth m (m.length - (d + 1)) : Nat) : Int) ((m.length - e : Nat) : Int) (zs m) (m.length : Int) ((m.length - (d + 1) : Nat) : Int) (zs m) own = some (acc ++ (eIn m (m.length - (d + 1)) e ++ eOut m d)) := by
  intro e
  induction e with
  | zero =>
    intro _ k acc hk ha _
    obtain ⟨k, rfl⟩ : ∃ m, k = m + 1 := ⟨k - 1, by omega⟩
    rw [impl_Graph_edges.l1, if_neg (by rw [zs_length]; omega), show ((m.length - (d + 1) : Nat) : Int) + 1 = ((m.length - d : Nat) : Int) by omega, wrapn _ (by have := hm.le; omega), H k acc (by omega) (by omega)]
    rfl
  | succ e ih =>
    intro he k acc hk ha h0
    obtain ⟨k, rfl⟩ : ∃ m, k = m + 1 := ⟨k - 1, by omega⟩
    have e1 : ((m.length - (e + 1) : Nat) : Int) + 1 = ((m.length - e : Nat) : Int) := by omega
    rw [impl_Graph_edges.l1, if_pos (by rw [zs_length]; omega), has_f _ _ (Nat.lt_trans (hm.bound _) (by decide)), e1, wrapn _ (by have := hm.le; omega)]
    simp only [bs]
    unfold eIn
    by_cases hb : (nth m (m.length - (d + 1))).testBit (m.length - (e + 1)) = true
    · rw [if_pos hb, if_pos hb, if_pos (by omega), ih (by omega) k _ (by omega) (by rw [List.length_append, List.length_singleton]; omega) h0, List.append_assoc]; rfl
    · rw [if_neg hb, if_neg hb, ih (by omega) k acc (by omega) (by omega) h0]
theorem iEdg0 (m : List Nat) (hm : Gra.Good m) (own : Bool) : ∀ d, d ≤ m.length → ∀ k acc, 40 * (d + 1) ≤ k → acc.length ≤ 1000 - 20 * d → impl_Graph_edges.l0 k acc (zs m) (m.length : Int) ((m.length - d : Nat) : Int) (zs m) own = some (acc ++ eOut m d) := by
  intro d
  induction d with
  | zero =>
    intro _ k acc hk _
    obtain ⟨k, rfl⟩ : ∃ m, k = m + 1 := ⟨k - 1, by omega⟩
    rw [impl_Graph_edges.l0, if_neg (by omega), eOut, List.append_nil]
  | succ d ih =>
    intro hd k acc hk ha
    have h16 := hm.le
    obtain ⟨k, rfl⟩ : ∃ m, k = m + 1 := ⟨k - 1, by omega⟩
    have e1 : ((m.length - (d + 1) : Nat) : Int) + 1 = ((m.length - d : Nat) : Int) := by omega
    rw [impl_Graph_edges.l0, if_pos (by omega), if_pos (by omega), if_pos (by rw [zs_length]; omega), rd_nth, e1, wrapn _ (by omega), iEdg1 m hm own (40 * (d + 1)) d (by omega) (1000 - 20 * d) (fun k acc hk ha => ih (by omega) k acc hk ha) d (Nat.le_refl _) k acc (by omega) (by omega) (by omega)]
    rfl
/-- Both tell the same edges. -/
theorem sEdges (m : List Nat) (hm : Gra.Good m) (own : Bool) (k : Nat) (hk : 700 ≤ k) : spec_grEdges.f k (zs m) own = some (eOut m m.length) := by
  have h := sEdg0 m hm own m.length (Nat.le_refl _) k [] (by have := hm.le; omega) (Nat.zero_le _)
  rw [Nat.sub_self] at h
  unfold spec_grEdges.f
  rw [zs_length]; exact h
theorem iEdges (m : List Nat) (hm : Gra.Good m) (own : Bool) (k : Nat) (hk : 700 ≤ k) : impl_Graph_edges.f k (zs m) own = some (eOut m m.length) := by
  have h := iEdg0 m hm own m.length (Nat.le_refl _) k [] (by have := hm.le; omega) (Nat.zero_le _)
  rw [Nat.sub_self] at h
  unfold impl_Graph_edges.f
  rw [zs_length]; exact h
theorem rd_get {l : List Int} {i : Nat} (h : i < l.length) : rd l (i : Int) = l[i] := by
  unfold rd
  rw [Int.toNat_natCast, List.getD_eq_getElem?_getD, List.getElem?_eq_getElem h]; rfl
theorem hasI_l (l : List Int) (x : Int) (hl : l.length < 2 ^ 62) : ∀ n i k, i + n = l.length → n < k → spec_l1Has.l0 k x l (l.length : Int) (i : Int) = some (decide (x ∈ l.drop i)) := by
  intro n
  induction n with
  | zero =>
    intro i k hi hk
    obtain ⟨k, rfl⟩ : ∃ m, k = m + 1 := ⟨k - 1, by omega⟩
    rw [spec_l1Has.l0, if_neg (by omega), List.drop_eq_nil_of_le (by omega)]
    simp
  | succ n ih =>
    intro i k hi hk
    obtain ⟨k, rfl⟩ : ∃ m, k = m + 1 := ⟨k - 1, by omega⟩
    have hlt : i < l.length := by omega
    rw [spec_l1Has.l0, if_pos (by omega), if_pos (by omega), if_pos (by omega), rd_get hlt, List.drop_eq_getElem_cons hlt]
    by_cases h : l[i] = x
    · rw [if_pos h]; simp [h]
    · rw [if_neg h, show ((i : Int) + 1) = ((i + 1 : Nat) : Int) from rfl, wrapn _ (by omega), ih (i + 1) k (by omega) (by omega)]
      congr 1
      rw [decide_eq_decide, List.mem_cons]
      exact ⟨Or.inr, fun hh => hh.resolve_left (fun e => h e.symm)⟩
theorem hasI_f (l : List Int) (x : Int) (hl : l.length < 2 ^ 62) (k : Nat) (hk : l.length < k) : spec_l1Has.f k l x = some (decide (x ∈ l)) := by
  unfold spec_l1Has.f
  exact hasI_l l x hl l.length 0 k (by omega) hk
theorem nod_l (l : List Int) (hl : l.length < 2 ^ 60) : ∀ n i k, i + n = l.length → l.length + n < k → (l.take i).Nodup → spec_grNames.l0 k l l (l.length : Int) (i : Int) = some (decide l.Nodup) := by
  intro n
  induction n with
  | zero =>
    intro i k hi hk hn
    obtain ⟨k, rfl⟩ : ∃ m, k = m + 1 := ⟨k - 1, by omega⟩
    rw [List.take_of_length_le (by omega)] at hn
    rw [spec_grNames.l0, if_neg (by omega), decide_eq_true hn]
  | succ n ih =>
    intro i k hi hk hn
    obtain ⟨k, rfl⟩ : ∃ m, k = m + 1 := ⟨k - 1, by omega⟩
    have hlt : i < l.length := by omega
    have ht : (l.take i).length = i := by rw [List.length_take]; omega
    have e : l.take (i + 1) = l.take i ++ [l[i]] := List.take_succ_eq_append_getElem hlt
    rw [spec_grNames.l0, if_pos (by omega), if_pos (by omega), if_pos (by omega), if_pos (by omega), rd_get hlt, Int.toNat_natCast, hasI_f _ _ (by omega) k (by omega)]
    simp only [bs]
    by_cases h : l[i] ∈ l.take i
    · rw [decide_eq_true h, if_pos rfl]
      congr 1
      symm
      apply decide_eq_false
      intro hd
      have h2 : (l.take (i + 1)).Nodup := hd.sublist (List.take_sublist ..)
      rw [e, List.nodup_append] at h2
      exact h2.2.2 _ h _ (List.mem_singleton.2 rfl) rfl
    · rw [decide_eq_false h, if_neg (by decide), show ((i : Int) + 1) = ((i + 1 : Nat) : Int) from rfl, wrapn _ (by omega)]
      refine ih (i + 1) k (by omega) (by omega) ?_
      rw [e, List.nodup_append]
      refine ⟨hn, by simp, fun a ha b hb => ?_⟩
      rintro rfl
      rw [List.mem_singleton] at hb
      subst hb
      exact h ha
theorem perm_of_sub : ∀ (l1 l2 : List Int), l1.Nodup → (∀ x ∈ l1, x ∈ l2) → l2.length ≤ l1.length → l1.Perm l2
  | [], l2, _, _, h => by
    obtain rfl := List.length_eq_zero_iff.1 (Nat.le_zero.1 h)
    exact List.Perm.refl _
  | a :: t, l2, hn, hs, h => by
    have ha := hs a (List.mem_cons_self ..)
    have hp := List.perm_cons_erase ha
    have hl := hp.length_eq
    rw [List.length_cons] at hl h
    rw [List.nodup_cons] at hn
    refine (List.Perm.cons a (perm_of_sub t (l2.erase a) hn.2 (fun x hx => ?_) (by omega))).trans hp.symm
    exact (List.mem_erase_of_ne (fun e => by subst e; exact hn.1 hx)).2 (hs x (List.mem_cons_of_mem _ hx))
/-- Names: each button once. -/
def namesB (l : List Int) (n : Nat) : Bool := decide (l.length = n) && (decide (∀ x ∈ l, 0 ≤ x ∧ x ≤ (n : Int) - 1) && decide l.Nodup)
theorem iota_mem {n : Nat} {x : Int} : x ∈ Go.Proofs.Yteabfdcobkgmmaa.Are.iota n ↔ 0 ≤ x ∧ x ≤ (n : Int) - 1 := by
  unfold Go.Proofs.Yteabfdcobkgmmaa.Are.iota
  rw [List.mem_map]
  constructor
  · rintro ⟨j, hj, rfl⟩
    rw [List.mem_range] at hj
    exact ⟨Int.natCast_nonneg _, by show (j : Int) ≤ _; omega⟩
  · intro h
    exact ⟨x.toNat, List.mem_range.2 (by omega), by show ((x.toNat : Nat) : Int) = x; omega⟩
theorem iota_nodup (n : Nat) : (Go.Proofs.Yteabfdcobkgmmaa.Are.iota n).Nodup := by
  unfold Go.Proofs.Yteabfdcobkgmmaa.Are.iota
  rw [List.nodup_iff_pairwise_ne, List.pairwise_map]
  exact (List.nodup_iff_pairwise_ne.1 List.nodup_range).imp fun h e => h (Int.ofNat.inj e)
theorem iota_sorted (n : Nat) : (Go.Proofs.Yteabfdcobkgmmaa.Are.iota n).Pairwise (fun x y => decide (x ≤ y) = true) := by
  unfold Go.Proofs.Yteabfdcobkgmmaa.Are.iota
  rw [List.pairwise_map]
  exact List.pairwise_lt_range.imp fun h => decide_eq_true (show ((_ : Nat) : Int) ≤ ((_ : Nat) : Int) by omega)
theorem iota_len (n : Nat) : (Go.Proofs.Yteabfdcobkgmmaa.Are.iota n).length = n := by simp [Go.Proofs.Yteabfdcobkgmmaa.Are.iota]
theorem sorted_iota (l : List Int) (n : Nat) (hl : l.length = n) : ((l.mergeSort fun x y => decide (x ≤ y)) = Go.Proofs.Yteabfdcobkgmmaa.Are.iota n) ↔ ((∀ x ∈ l, 0 ≤ x ∧ x ≤ (n : Int) - 1) ∧ l.Nodup) := by
  have hp := List.mergeSort_perm l fun x y => decide (x ≤ y)
  constructor
  · intro h
    rw [h] at hp
    exact ⟨fun x hx => iota_mem.1 (hp.mem_iff.2 hx), hp.nodup_iff.1 (iota_nodup n)⟩
  · rintro ⟨h1, h2⟩
    have hq : l.Perm (Go.Proofs.Yteabfdcobkgmmaa.Are.iota n) := perm_of_sub _ _ h2 (fun x hx => iota_mem.2 (h1 x hx)) (by rw [iota_len, hl]; exact Nat.le_refl _)
    have hs := List.pairwise_mergeSort (le := fun x y : Int => decide (x ≤ y)) (fun a b c h1 h2 => by simp only [decide_eq_true_eq] at h1 h2 ⊢; omega) (fun a b => by simp only [Bool.or_eq_true, decide_eq_true_eq]; omega) l
    exact List.Perm.eq_of_pairwise (le := fun x y : Int => decide (x ≤ y) = true) (fun a b _ _ h1 h2 => by simp only [decide_eq_true_eq] at h1 h2; omega) hs (iota_sorted n) (hp.trans hq)
theorem sNames (l : List Int) (n : Nat) (hn : 1 ≤ n) (hn2 : n ≤ 16) (k : Nat) (hk : 5000000 ≤ k) : spec_grNames.f k l (n : Int) = some (namesB l n) := by
  obtain ⟨k, rfl⟩ : ∃ m, k = m + 1 := ⟨k - 1, by omega⟩
  have e : wrap64 ((n : Int) - 1) = (n : Int) - 1 := by unfold wrap64; omega
  unfold spec_grNames.f namesB
  by_cases h : l.length = n
  · rw [if_pos (by omega), e, l1All_f l 0 _ (by omega) _ (by omega), decide_eq_true h]
    simp only [bs]
    by_cases h2 : ∀ x ∈ l, 0 ≤ x ∧ x ≤ (n : Int) - 1
    · rw [decide_eq_true h2, spec_grNames.j0, if_neg (by decide), show (0 : Int) = ((0 : Nat) : Int) from rfl, nod_l l (by omega) l.length 0 k (by omega) (by omega) (by simp)]
      rfl
    · rw [decide_eq_false h2, spec_grNames.j0, if_pos (show (!false) = true from rfl)]
      rfl
  · rw [if_neg (by omega), spec_grNames.j0, if_pos rfl, decide_eq_false h]
    rfl
theorem iNames (l : List Int) (n : Nat) (hl : l.length ≤ 1048576) (hn : 1 ≤ n) : impl_areNames.f l (n : Int) = some (namesB l n) := by
  unfold impl_areNames.f Go.Proofs.Yteabfdcobkgmmaa.Are.areF namesB
  by_cases h : l.length = n
  · rw [if_pos (by omega), if_pos (by omega), decide_eq_true h, Bool.true_and, h, ← Bool.decide_and, decide_eq_decide.2 (sorted_iota l n h)]
  · rw [if_neg (by omega), decide_eq_false h]; rfl
theorem add_both (acc : List Int) (own : Bool) (x y : Int) (hx : 0 ≤ x) (hx2 : x < (acc.length : Int)) (hy : 0 ≤ y) (hy2 : y < (acc.length : Int)) : ∃ R, spec_grAdd.f acc own x y = some R ∧ impl_Graph_join.f acc own x y = some R ∧ R.length = acc.length := by
  unfold spec_grAdd.f impl_Graph_join.f
  rw [if_pos hx, if_pos hx2, if_pos hy]
  simp only [bs]
  rw [if_pos hy2]
  exact ⟨_, rfl, rfl, by rw [List.length_set, List.length_set]⟩
theorem ren_l (es : List (List Int)) (names : List Int) (n : Nat) (own : Bool) (hn : names.length = n) (hes : es.length ≤ 1000) (hE : ∀ e ∈ es, Edge n e) (hN : ∀ x ∈ names, 0 ≤ x ∧ x ≤ (n : Int) - 1) :
    ∀ d i k (acc : List Int), i + d = es.length → d < k → acc.length = n → ∃ R : List Int, spec_RenameGraph.l0 k names es (es.length : Int) (i : Int) acc own = some (R, own, true) ∧ impl_RenameGraph.l0 k names es (es.length : Int) (i : Int) acc own = some (R, own, true) ∧ R.length = n := by
  intro d
  induction d with
  | zero =>
    intro i k acc hi hk ha
    obtain ⟨k, rfl⟩ : ∃ m, k = m + 1 := ⟨k - 1, by omega⟩
    rw [spec_RenameGraph.l0, impl_RenameGraph.l0, if_neg (by omega), if_neg (by omega)]
    exact ⟨_, rfl, rfl, ha⟩
  | succ d ih =>
    intro i k acc hi hk ha
    obtain ⟨k, rfl⟩ : ∃ m, k = m + 1 := ⟨k - 1, by omega⟩
    have hlt : i < es.length := by omega
    obtain ⟨a, b, he, h1, h2⟩ := hE _ (List.getElem_mem hlt)
    have e : rd_L1 es (i : Int) = [(a : Int), (b : Int)] := by
      unfold rd_L1
      rw [Int.toNat_natCast, List.getD_eq_getElem?_getD, List.getElem?_eq_getElem hlt]; exact he
    have e0 : rd [(a : Int), (b : Int)] 0 = (a : Int) := rfl
    have e1 : rd [(a : Int), (b : Int)] 1 = (b : Int) := rfl
    have na := hN _ (List.getElem_mem (show a < names.length by omega))
    have nb := hN _ (List.getElem_mem (show b < names.length by omega))
    obtain ⟨R, r1, r2, r3⟩ := add_both acc own names[a] names[b] na.1 (by omega) nb.1 (by omega)
    obtain ⟨R', r1', r2', r3'⟩ := ih (i + 1) k R (by omega) (by omega) (by omega)
    have hl2 : ([(a : Int), (b : Int)].length : Int) = 2 := rfl
    rw [spec_RenameGraph.l0, impl_RenameGraph.l0, e, e0, e1, hl2]
    rw [if_pos (by omega), if_pos (by omega), if_pos (by omega), if_pos (by omega), if_pos (by omega), if_pos (by omega), if_pos (by omega), if_pos (by omega), if_pos (by omega), rd_get (show a < names.length by omega), rd_get (show b < names.length by omega), r1,
      if_pos (by omega), if_pos (by omega), if_pos (by omega), if_pos (by omega), if_pos (by omega), if_pos (by omega), if_pos (by omega), if_pos (by omega), if_pos (by omega), r2]
    simp only [bs]
    rw [show ((i : Int) + 1) = ((i + 1 : Nat) : Int) from rfl, wrapn _ (by omega)]
    exact ⟨R', r1', r2', r3'⟩
theorem ren_both (l : List Int) (o : Bool) (names : List Int) (hn : names.length ≤ 1048576) (k : Nat) (hk : 5000002 ≤ k) : ∃ R ro rb, spec_RenameGraph.f k l o names = some (R, ro, rb) ∧ impl_RenameGraph.f k l o names = some (R, ro, rb) ∧ R.length ≤ 40 := by
  obtain ⟨k, rfl⟩ : ∃ m, k = m + 1 := ⟨k - 1, by omega⟩
  have no1 : spec_RenameGraph.j0 (k + 1) names true l o = some ([], false, false) := by rw [spec_RenameGraph.j0, if_pos rfl]
  have no2 : impl_RenameGraph.j0 (k + 1) names true l o = some ([], false, false) := by rw [impl_RenameGraph.j0, if_pos rfl]
  unfold spec_RenameGraph.f impl_RenameGraph.f spec_grGood.f impl_isGraph.f
  simp only [bs]
  cases hg : goodB l with
  | false => rw [if_neg (by decide), if_neg (by decide), no1, no2]; exact ⟨_, _, _, rfl, rfl, by decide⟩
  | true =>
    obtain ⟨m, rfl, hm⟩ := (goodB_isG l).1 hg
    have h1 := hm.pos
    have h2 := hm.le
    simp only [if_true]
    rw [zs_length, sNames names m.length h1 h2 _ (by omega), iNames names m.length hn h1]
    simp only [bs]
    cases hb : namesB names m.length with
    | false => rw [Bool.not_false, no1, no2]; exact ⟨_, _, _, rfl, rfl, by decide⟩
    | true =>
      unfold namesB at hb
      rw [Bool.and_eq_true, Bool.and_eq_true, decide_eq_true_eq, decide_eq_true_eq, decide_eq_true_eq] at hb
      have hel := eOut_len m m.length h2
      obtain ⟨R, r1, r2, r3⟩ := ren_l (eOut m m.length) names m.length o hb.1 (by omega) (eOut_edge m _ (Nat.le_refl _)) hb.2.1 (eOut m m.length).length 0 k (List.replicate m.length 0) (by omega) (by omega) (List.length_replicate ..)
      rw [Bool.not_true, spec_RenameGraph.j0, impl_RenameGraph.j0, if_neg (show ¬ (false = true) by decide), if_neg (show ¬ (false = true) by decide), zs_length, if_pos (by omega), if_pos (by omega), Int.toNat_natCast, if_pos (by omega), if_pos (by omega), sEdges m hm o k (by omega), iEdges m hm o k (by omega)]
      simp only [bs]
      exact ⟨R, o, true, r1, r2, by omega⟩
theorem markE_f (s : Nat) (l : List Int) (o : Bool) (hl : l.length < 2 ^ 61) (hs : s < 2 ^ 61) (k : Nat) (hk : l.length < k) : laws_markGraph.f k l o (s : Int) = some (((s + l.length : Nat) : Int), seqs s l.length) := by
  unfold laws_markGraph.f
  rw [markN_f s l hl hs k hk]
  simp only [bs]

end Go.Proofs.Yteabfdcobkgmmaa.LemFnExactRenameGraph
