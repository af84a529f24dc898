/- Lemmas on the printed functions of FnExactJoinGraphs: what loops and calls come to, at natural numbers in range. -/
import Derived.Test.YteabfdcobkgmmaaPFnExactJoinGraphsx
import Derived.Test.YteabfdcobkgmmaaBit
import Derived.Test.YteabfdcobkgmmaaGra
import Derived.Test.YteabfdcobkgmmaaRow
namespace Go.Proofs.Yteabfdcobkgmmaa.LemFnExactJoinGraphs
open Go.RowKit Go.Proofs.Yteabfdcobkgmmaa.PFnExactJoinGraphs Go.Proofs.YteabfdcobkgmmaaW.PrintWords Go.Proofs.YteabfdcobkgmmaaW.PrintLast Go.Proofs.Yteabfdcobkgmmaa.Bit Go.Proofs.Yteabfdcobkgmmaa.Row Go.Proofs.Yteabfdcobkgmmaa.Lin Go.Proofs.Yteabfdcobkgmmaa.Gra

theorem eqIntS_l (l : List Int) (hl : l.length < 2 ^ 62) : ∀ n i k, i + n = l.length → n < k → laws_eqIntS.l0 k l l (i : Int) = some true := by
  intro n
  induction n with
  | zero =>
    intro i k hi hk
    obtain ⟨k, rfl⟩ : ∃ m, k = m + 1 := ⟨k - 1, by omega⟩
    rw [laws_eqIntS.l0, if_neg (by omega)]
  | succ n ih =>
    intro i k hi hk
    obtain ⟨k, rfl⟩ : ∃ m, k = m + 1 := ⟨k - 1, by omega⟩
    rw [laws_eqIntS.l0, if_pos (by omega), if_pos (by omega), if_pos (by omega), if_pos rfl, show ((i : Int) + 1) = ((i + 1 : Nat) : Int) from rfl, wrapn _ (by omega)]
    exact ih (i + 1) k (by omega) (by omega)
/-- A list is equal to itself. -/
theorem eqIntS_self (l : List Int) (hl : l.length < 2 ^ 62) (k : Nat) (hk : l.length < k) : laws_eqIntS.f k l l = some true := by
  unfold laws_eqIntS.f
  rw [if_pos rfl]
  exact eqIntS_l l hl l.length 0 k (by omega) hk
/-- 1, 2, .., n. -/
def marks (n : Nat) : List Int := (List.range n).map fun i => ((i + 1 : Nat) : Int)
theorem marks_length (n : Nat) : (marks n).length = n := by simp [marks]
theorem marks_succ (n : Nat) : marks (n + 1) = marks n ++ [((n + 1 : Nat) : Int)] := by simp [marks, List.range_succ]
theorem marks_rd (n i : Nat) (h : i < n) : rd (marks n) (i : Int) = ((i + 1 : Nat) : Int) := by
  unfold rd marks
  rw [Int.toNat_natCast, List.getD_eq_getElem?_getD, List.getElem?_map, List.getElem?_range h]; rfl
theorem mark_set (l : List Int) (i : Nat) (h : i < l.length) : (marks i ++ l.drop i).set i ((i + 1 : Nat) : Int) = marks (i + 1) ++ l.drop (i + 1) := by
  rw [List.set_append_right _ _ (by rw [marks_length]; omega), marks_length, Nat.sub_self, List.drop_eq_getElem_cons h, List.set_cons_zero, marks_succ, List.append_assoc]; rfl
theorem mark_l (l : List Int) (hl : l.length < 2 ^ 62) : ∀ n i k, i + n = l.length → n < k → laws_markIntS.l0 k (marks i ++ l.drop i) ((i + 1 : Nat) : Int) (i : Int) = some (((l.length + 1 : Nat) : Int), marks l.length) := by
  intro n
  induction n with
  | zero =>
    intro i k hi hk
    obtain ⟨k, rfl⟩ : ∃ m, k = m + 1 := ⟨k - 1, by omega⟩
    obtain rfl : i = l.length := by omega
    rw [laws_markIntS.l0, if_neg (by simp [marks_length]), List.drop_length, List.append_nil]
  | succ n ih =>
    intro i k hi hk
    obtain ⟨k, rfl⟩ : ∃ m, k = m + 1 := ⟨k - 1, by omega⟩
    rw [laws_markIntS.l0, if_pos (by simp [marks_length]; omega), if_pos (by omega), Int.toNat_natCast, mark_set l i (by omega), show ((i + 1 : Nat) : Int) + 1 = ((i + 1 + 1 : Nat) : Int) from rfl, show ((i : Int) + 1) = ((i + 1 : Nat) : Int) from rfl, wrapn _ (by omega), wrapn _ (by omega)]
    exact ih (i + 1) k (by omega) (by omega)
theorem mark_any (l : List Int) (hl : l.length < 2 ^ 62) (k : Nat) (hk : l.length < k) : laws_markIntS.f k l 1 = some (((l.length + 1 : Nat) : Int), marks l.length) := by
  have := mark_l l hl l.length 0 k (by omega) hk
  unfold laws_markIntS.f
  simpa [marks] using this
theorem held_l (m : Nat) (hm : m < 2 ^ 62) : ∀ n i k, i + n = m → n < k → laws_heldIntS.l0 k (marks m) ((i + 1 : Nat) : Int) (i : Int) = some ((m + 1 : Nat) : Int) := by
  intro n
  induction n with
  | zero =>
    intro i k hi hk
    obtain ⟨k, rfl⟩ : ∃ m, k = m + 1 := ⟨k - 1, by omega⟩
    obtain rfl : i = m := by omega
    rw [laws_heldIntS.l0, if_neg (by rw [marks_length]; omega)]
  | succ n ih =>
    intro i k hi hk
    obtain ⟨k, rfl⟩ : ∃ m, k = m + 1 := ⟨k - 1, by omega⟩
    rw [laws_heldIntS.l0, if_pos (by rw [marks_length]; omega), if_pos (by omega), if_pos (marks_rd m i (by omega)), show ((i + 1 : Nat) : Int) + 1 = ((i + 1 + 1 : Nat) : Int) from rfl, show ((i : Int) + 1) = ((i + 1 : Nat) : Int) from rfl, wrapn _ (by omega), wrapn _ (by omega)]
    exact ih (i + 1) k (by omega) (by omega)
theorem held_any (m : Nat) (hm : m < 2 ^ 62) (k : Nat) (hk : m < k) : laws_heldIntS.f k (marks m) 1 = some ((m + 1 : Nat) : Int) :=
  held_l m hm m 0 k (by omega) hk
theorem whole_f (c : Nat) (h : c < 63) : impl_whole.f (c : Int) = some ((2 ^ c - 1 : Nat) : Int) := by
  unfold impl_whole.f
  rw [if_pos (Int.natCast_nonneg _), wholen c h]
theorem in_f (a b c : Int) : impl_in.f a b c = some (decide (b ≤ a ∧ a ≤ c)) := by
  unfold impl_in.f
  split
  · rename_i h; simp [h]
  · rename_i h; simp [h]
theorem l1In_f (a b c : Int) : spec_l1In.f a b c = some (decide (b ≤ a ∧ a ≤ c)) := by
  unfold spec_l1In.f
  split
  · rename_i h; simp [show b ≤ a from h]
  · rename_i h; simp [show ¬ b ≤ a from h]
theorem has_f (x i : Nat) (hx : x < 2 ^ 63) : impl_has.f (x : Int) (i : Int) = some (x.testBit i) := by
  unfold impl_has.f
  rw [if_pos (Int.natCast_nonneg _), shrn x i hx, show (1 : Int) = ((1 : Nat) : Int) from rfl, andn _ _ (Nat.lt_of_le_of_lt (Nat.div_le_self _ _) hx) (by decide), Nat.and_one_is_mod, Nat.testBit_eq_decide_div_mod_eq]
  congr 1
  rcases Nat.mod_two_eq_zero_or_one (x / 2 ^ i) with h | h <;> rw [h] <;> rfl
theorem grIn_f (x i : Nat) (hx : x < 2 ^ 63) : spec_grIn.f (x : Int) (i : Int) = some (x.testBit i) := by
  unfold spec_grIn.f
  rw [if_pos (Int.natCast_nonneg _), shrn x i hx, Nat.testBit_eq_decide_div_mod_eq]
  congr 1
  have e : Int.tmod ((x / 2 ^ i : Nat) : Int) 2 = ((x / 2 ^ i % 2 : Nat) : Int) := rfl
  rw [e]
  rcases Nat.mod_two_eq_zero_or_one (x / 2 ^ i) with h | h <;> rw [h] <;> rfl
theorem l1All_l (l : List Int) (a b : Int) (hl : l.length < 2 ^ 62) : ∀ n i k, i + n = l.length → n < k → spec_l1All.l0 k a b l (l.length : Int) (i : Int) = some (decide (∀ x ∈ l.drop i, a ≤ x ∧ x ≤ b)) := by
  intro n
  induction n with
  | zero =>
    intro i k hi hk
    obtain ⟨k, rfl⟩ : ∃ m, k = m + 1 := ⟨k - 1, by omega⟩
    rw [spec_l1All.l0, if_neg (by omega), show l.drop i = [] from List.drop_eq_nil_of_le (by omega)]
    simp
  | succ n ih =>
    intro i k hi hk
    obtain ⟨k, rfl⟩ : ∃ m, k = m + 1 := ⟨k - 1, by omega⟩
    have hlt : i < l.length := by omega
    have e : rd l (i : Int) = l[i] := by
      unfold rd
      rw [Int.toNat_natCast, List.getD_eq_getElem?_getD, List.getElem?_eq_getElem hlt]; rfl
    rw [spec_l1All.l0, if_pos (by omega), if_pos (by omega), if_pos (by omega), l1In_f, e]
    simp only [bs]
    rw [List.drop_eq_getElem_cons hlt]
    by_cases h : a ≤ l[i] ∧ l[i] ≤ b
    · rw [decide_eq_true h, if_pos rfl, show ((i : Int) + 1) = ((i + 1 : Nat) : Int) from rfl, wrapn _ (by omega), ih (i + 1) k (by omega) (by omega)]
      congr 1
      rw [decide_eq_decide, List.forall_mem_cons]
      exact ⟨fun hh => ⟨h, hh⟩, fun hh => hh.2⟩
    · rw [decide_eq_false h, if_neg (by decide)]
      congr 1
      symm
      rw [decide_eq_false_iff_not]
      exact fun hh => h (hh _ (List.mem_cons_self ..))
theorem l1All_f (l : List Int) (a b : Int) (hl : l.length < 2 ^ 62) (k : Nat) (hk : l.length < k) : spec_l1All.f k l a b = some (decide (∀ x ∈ l, a ≤ x ∧ x ≤ b)) := by
  unfold spec_l1All.f
  exact l1All_l l a b hl l.length 0 k (by omega) hk
theorem toInt_l (l : List Int) (hl : l.length < 2 ^ 40) : ∀ n i k, i + n = l.length → n < k → laws_toIntS.l0 k l (l.take i ++ List.replicate n 0) (i : Int) = some l := by
  intro n
  induction n with
  | zero =>
    intro i k hi hk
    obtain ⟨k, rfl⟩ : ∃ m, k = m + 1 := ⟨k - 1, by omega⟩
    rw [laws_toIntS.l0, if_neg (by omega), List.replicate_zero, List.append_nil, show i = l.length by omega, List.take_length]
  | succ n ih =>
    intro i k hi hk
    obtain ⟨k, rfl⟩ : ∃ m, k = m + 1 := ⟨k - 1, by omega⟩
    have hlt : i < l.length := by omega
    have e : rd l (i : Int) = l[i] := by
      unfold rd
      rw [Int.toNat_natCast, List.getD_eq_getElem?_getD, List.getElem?_eq_getElem hlt]; rfl
    have ht : (l.take i).length = i := by rw [List.length_take]; omega
    rw [laws_toIntS.l0, if_pos (by omega), if_pos (by omega), if_pos (by rw [List.length_append, ht, List.length_replicate]; omega), e, Int.toNat_natCast, List.set_append_right _ _ (by omega), ht, Nat.sub_self, List.replicate_succ, List.set_cons_zero, show ((i : Int) + 1) = ((i + 1 : Nat) : Int) from rfl, wrapn _ (by omega)]
    have := ih (i + 1) k (by omega) (by omega)
    rw [List.take_succ_eq_append_getElem hlt, List.append_assoc] at this
    exact this
/-- The copy that a law makes of a list. -/
theorem toInt_f (l : List Int) (hl : l.length < 2 ^ 40) (k : Nat) (hk : l.length < k) : laws_toIntS.f k l = some l := by
  unfold laws_toIntS.f
  rw [if_pos (Int.natCast_nonneg _), Int.toNat_natCast, if_pos (by omega)]
  exact toInt_l l hl l.length 0 k (by omega) hk
theorem toGraph_f (l : List Int) (own : Bool) (hl : l.length < 2 ^ 40) (k : Nat) (hk : l.length < k) : laws_toGraph.f k l own = some (l, own) := by
  unfold laws_toGraph.f
  rw [toInt_f l hl k hk]
  simp only [bs]
theorem eqGraph_self (l : List Int) (own : Bool) (hl : l.length < 2 ^ 62) (k : Nat) (hk : l.length < k) : laws_eqGraph.f k l own l own = some true := by
  unfold laws_eqGraph.f
  rw [eqIntS_self l hl k hk]
  simp only [bs, if_true, bne_self_eq_false, Bool.false_eq_true, if_false]
theorem szInt_f (l : List Int) (left : Int) (hl : l.length ≤ maxLen) (h0 : 0 ≤ left) (h2 : left ≤ 1048576) : laws_szIntS.f l left = some (if left < (l.length : Int) then -1 else left - (l.length : Int)) := by
  have e : wrap64 (left - (l.length : Int)) = left - (l.length : Int) := by unfold maxLen at hl; unfold wrap64; omega
  unfold laws_szIntS.f
  rw [e]
  by_cases h : left < (l.length : Int)
  · rw [if_pos (by omega), if_pos h]
  · rw [if_neg (by omega), if_neg h]
theorem szGraph_f (l : List Int) (own : Bool) (left : Int) (hl : l.length ≤ maxLen) (h0 : 0 ≤ left) (h2 : left ≤ 1048576) : laws_szGraph.f l own left = some (if left < (l.length : Int) then -1 else left - (l.length : Int)) := by
  unfold laws_szGraph.f
  rw [szInt_f l left hl h0 h2]
  simp only [bs]
  by_cases h : left < (l.length : Int)
  · rw [if_pos h, if_pos (by decide)]
  · rw [if_neg h, if_neg (by omega)]
theorem markGraph_any (l : List Int) (own : Bool) (hl : l.length < 2 ^ 62) (k : Nat) (hk : l.length < k) : laws_markGraph.f k l own 1 = some (((l.length + 1 : Nat) : Int), marks l.length) := by
  unfold laws_markGraph.f
  rw [mark_any l hl k hk]
  simp only [bs]
theorem heldGraph_any (m : Nat) (own : Bool) (hm : m < 2 ^ 62) (k : Nat) (hk : m < k) : laws_heldGraph.f k (marks m) own 1 = some ((m + 1 : Nat) : Int) := by
  unfold laws_heldGraph.f
  rw [held_any m hm k hk]
  simp only [bs]
  rw [if_neg (by omega)]
/-- s, s + 1, .., n of them. -/
def seqs (s n : Nat) : List Int := (List.range n).map fun i => ((s + i : Nat) : Int)
theorem seqs_length (s n : Nat) : (seqs s n).length = n := by simp [seqs]
theorem seqs_succ (s n : Nat) : seqs s (n + 1) = seqs s n ++ [((s + n : Nat) : Int)] := by simp [seqs, List.range_succ]
theorem seqs_rd (s n i : Nat) (h : i < n) : rd (seqs s n) (i : Int) = ((s + i : Nat) : Int) := by
  unfold rd seqs
  rw [Int.toNat_natCast, List.getD_eq_getElem?_getD, List.getElem?_map, List.getElem?_range h]; rfl
theorem seqs_set (s : Nat) (l : List Int) (i : Nat) (h : i < l.length) : (seqs s i ++ l.drop i).set i ((s + i : Nat) : Int) = seqs s (i + 1) ++ l.drop (i + 1) := by
  rw [List.set_append_right _ _ (by rw [seqs_length]; omega), seqs_length, Nat.sub_self, List.drop_eq_getElem_cons h, List.set_cons_zero, seqs_succ, List.append_assoc]; rfl
theorem markN_l (s : Nat) (l : List Int) (hl : l.length < 2 ^ 61) (hs : s < 2 ^ 61) : ∀ n i k, i + n = l.length → n < k → laws_markIntS.l0 k (seqs s i ++ l.drop i) ((s + i : Nat) : Int) (i : Int) = some (((s + l.length : Nat) : Int), seqs s l.length) := by
  intro n
  induction n with
  | zero =>
    intro i k hi hk
    obtain ⟨k, rfl⟩ : ∃ m, k = m + 1 := ⟨k - 1, by omega⟩
    obtain rfl : i = l.length := by omega
    rw [laws_markIntS.l0, if_neg (by simp [seqs_length]), List.drop_length, List.append_nil]
  | succ n ih =>
    intro i k hi hk
    obtain ⟨k, rfl⟩ : ∃ m, k = m + 1 := ⟨k - 1, by omega⟩
    rw [laws_markIntS.l0, if_pos (by simp [seqs_length]; omega), if_pos (by omega), Int.toNat_natCast, seqs_set s l i (by omega), show ((s + i : Nat) : Int) + 1 = ((s + (i + 1) : Nat) : Int) from rfl, show ((i : Int) + 1) = ((i + 1 : Nat) : Int) from rfl, wrapn _ (by omega), wrapn _ (by omega)]
    exact ih (i + 1) k (by omega) (by omega)
theorem markN_f (s : Nat) (l : List Int) (hl : l.length < 2 ^ 61) (hs : s < 2 ^ 61) (k : Nat) (hk : l.length < k) : laws_markIntS.f k l (s : Int) = some (((s + l.length : Nat) : Int), seqs s l.length) := by
  have := markN_l s l hl hs l.length 0 k (by omega) hk
  unfold laws_markIntS.f
  simpa [seqs] using this
theorem heldN_l (s m : Nat) (hm : m < 2 ^ 61) (hs : s < 2 ^ 61) : ∀ n i k, i + n = m → n < k → laws_heldIntS.l0 k (seqs s m) ((s + i : Nat) : Int) (i : Int) = some ((s + m : Nat) : Int) := by
  intro n
  induction n with
  | zero =>
    intro i k hi hk
    obtain ⟨k, rfl⟩ : ∃ m, k = m + 1 := ⟨k - 1, by omega⟩
    obtain rfl : i = m := by omega
    rw [laws_heldIntS.l0, if_neg (by rw [seqs_length]; omega)]
  | succ n ih =>
    intro i k hi hk
    obtain ⟨k, rfl⟩ : ∃ m, k = m + 1 := ⟨k - 1, by omega⟩
    rw [laws_heldIntS.l0, if_pos (by rw [seqs_length]; omega), if_pos (by omega), if_pos (seqs_rd s m i (by omega)), show ((s + i : Nat) : Int) + 1 = ((s + (i + 1) : Nat) : Int) from rfl, show ((i : Int) + 1) = ((i + 1 : Nat) : Int) from rfl, wrapn _ (by omega), wrapn _ (by omega)]
    exact ih (i + 1) k (by omega) (by omega)
theorem heldN_f (s m : Nat) (hm : m < 2 ^ 61) (hs : s < 2 ^ 61) (k : Nat) (hk : m < k) : laws_heldIntS.f k (seqs s m) (s : Int) = some ((s + m : Nat) : Int) := by
  unfold laws_heldIntS.f
  exact heldN_l s m hm hs m 0 k (by omega) hk
theorem markNG_f (s : Nat) (l : List Int) (o : Bool) (hl : l.length < 2 ^ 61) (hs : s < 2 ^ 61) (k : Nat) (hk : l.length < k) : laws_markGraph.f k l o (s : Int) = some (((s + l.length : Nat) : Int), seqs s l.length) := by
  unfold laws_markGraph.f
  rw [markN_f s l hl hs k hk]
  simp only [bs]
theorem heldNG_f (s m : Nat) (o : Bool) (hm : m < 2 ^ 61) (hs : s < 2 ^ 61) (k : Nat) (hk : m < k) : laws_heldGraph.f k (seqs s m) o (s : Int) = some ((s + m : Nat) : Int) := by
  unfold laws_heldGraph.f
  rw [heldN_f s m hm hs k hk]
  simp only [bs]
  rw [if_neg (by omega)]
theorem joinS_l (ys x : List Int) (b c : Bool) (hy : ys.length ≤ 20) : ∀ n i k (acc : List Int), i + n = ys.length → n < k → acc.length ≤ 20 + i →
    spec_JoinGraphs.l0 k ys (ys.length : Int) (i : Int) x b acc c = some (acc ++ (ys.drop i).map (fun y => shl .i64 y (x.length : Int)), c, true) := by
  intro n
  induction n with
  | zero =>
    intro i k acc hi hk _
    obtain ⟨k, rfl⟩ : ∃ m, k = m + 1 := ⟨k - 1, by omega⟩
    rw [spec_JoinGraphs.l0, if_neg (by omega), List.drop_eq_nil_of_le (by omega), List.map_nil, List.append_nil]
  | succ n ih =>
    intro i k acc hi hk ha
    obtain ⟨k, rfl⟩ : ∃ m, k = m + 1 := ⟨k - 1, by omega⟩
    have hlt : i < ys.length := by omega
    have e : rd ys (i : Int) = ys[i] := by
      unfold rd
      rw [Int.toNat_natCast, List.getD_eq_getElem?_getD, List.getElem?_eq_getElem hlt]; rfl
    rw [spec_JoinGraphs.l0, if_pos (by omega), if_pos (by omega), if_pos (by omega), if_pos (by omega), show ((i : Int) + 1) = ((i + 1 : Nat) : Int) from rfl, wrapn _ (by omega), e, ih (i + 1) k _ (by omega) (by omega) (by rw [List.length_append, List.length_singleton]; omega), List.drop_eq_getElem_cons hlt, List.map_cons, List.append_assoc]; rfl
theorem joinI_l (ys x : List Int) (b c : Bool) (hy : ys.length ≤ 20) : ∀ n i k (acc : List Int), i + n = ys.length → n < k → acc.length ≤ 20 + i →
    impl_JoinGraphs.l0 k ys (ys.length : Int) (i : Int) x b acc c = some (acc ++ (ys.drop i).map (fun y => shl .i64 y (x.length : Int)), c, true) := by
  intro n
  induction n with
  | zero =>
    intro i k acc hi hk _
    obtain ⟨k, rfl⟩ : ∃ m, k = m + 1 := ⟨k - 1, by omega⟩
    rw [impl_JoinGraphs.l0, if_neg (by omega), List.drop_eq_nil_of_le (by omega), List.map_nil, List.append_nil]
  | succ n ih =>
    intro i k acc hi hk ha
    obtain ⟨k, rfl⟩ : ∃ m, k = m + 1 := ⟨k - 1, by omega⟩
    have hlt : i < ys.length := by omega
    have e : rd ys (i : Int) = ys[i] := by
      unfold rd
      rw [Int.toNat_natCast, List.getD_eq_getElem?_getD, List.getElem?_eq_getElem hlt]; rfl
    rw [impl_JoinGraphs.l0, if_pos (by omega), if_pos (by omega), if_pos (by omega), if_pos (by omega), show ((i : Int) + 1) = ((i + 1 : Nat) : Int) from rfl, wrapn _ (by omega), e, ih (i + 1) k _ (by omega) (by omega) (by rw [List.length_append, List.length_singleton]; omega), List.drop_eq_getElem_cons hlt, List.map_cons, List.append_assoc]; rfl
theorem join_both (x y : List Int) (o p : Bool) (hx : x.length ≤ 2000000) (hy : y.length ≤ 2000000) (k : Nat) (hk : 50 ≤ k) : ∃ R ro rb, spec_JoinGraphs.f k x o y p = some (R, ro, rb) ∧ impl_JoinGraphs.f k x o y p = some (R, ro, rb) ∧ R.length ≤ 40 := by
  obtain ⟨k, rfl⟩ : ∃ m, k = m + 1 := ⟨k - 1, by omega⟩
  have no1 : spec_JoinGraphs.j0 (k + 1) true x o y p = some ([], false, false) := by rw [spec_JoinGraphs.j0, if_pos rfl]
  have no2 : impl_JoinGraphs.j0 (k + 1) true x o y p = some ([], false, false) := by rw [impl_JoinGraphs.j0, if_pos rfl]
  unfold spec_JoinGraphs.f impl_JoinGraphs.f spec_grGood.f impl_isGraph.f
  simp only [bs]
  cases hgx : goodB x with
  | false => rw [if_neg (by decide), if_neg (by decide), no1, no2]; exact ⟨_, _, _, rfl, rfl, by decide⟩
  | true =>
    cases hgy : goodB y with
    | false => simp only [if_true, Bool.false_eq_true, if_false]; rw [no1, no2]; exact ⟨_, _, _, rfl, rfl, by decide⟩
    | true =>
      have hx1 := ((goodB_iff x).1 hgx).1
      have hy1 := ((goodB_iff y).1 hgy).1
      simp only [if_true]
      by_cases hop : (o != p) = true
      · rw [if_pos hop, if_pos hop, no1, no2]; exact ⟨_, _, _, rfl, rfl, by decide⟩
      · have e : wrap64 ((x.length : Int) + (y.length : Int)) = ((x.length + y.length : Nat) : Int) := by
          rw [show (x.length : Int) + (y.length : Int) = ((x.length + y.length : Nat) : Int) from rfl, wrapn _ (by omega)]
        rw [if_neg hop, if_neg hop, e]
        unfold spec_grSize.f
        rw [l1In_f]
        simp only [bs]
        by_cases h16 : x.length + y.length ≤ 16
        · rw [decide_eq_true (show (1 : Int) ≤ ((x.length + y.length : Nat) : Int) ∧ ((x.length + y.length : Nat) : Int) ≤ 16 by omega), decide_eq_false (show ¬ (((x.length + y.length : Nat) : Int) > 16) by omega), Bool.not_true, spec_JoinGraphs.j0, impl_JoinGraphs.j0, if_neg (by decide), if_neg (by decide)]
          unfold spec_grOwn.f spec_l1Own.f slices_Clone_int_int.f
          rw [if_pos (show x.length ≤ 1000000000000 by omega)]
          simp only [bs, List.nil_append, List.length_nil]
          rw [if_pos (show 0 + x.length < 17592186044416 by omega)]
          simp only [bs]
          rw [show (0 : Int) = ((0 : Nat) : Int) from rfl, joinS_l y x o o (by omega) y.length 0 k x (by omega) (by omega) (by omega), joinI_l y x o o (by omega) y.length 0 k x (by omega) (by omega) (by omega)]
          exact ⟨_, _, _, rfl, rfl, by rw [List.length_append, List.length_map, List.length_drop]; omega⟩
        · rw [decide_eq_false (show ¬ ((1 : Int) ≤ ((x.length + y.length : Nat) : Int) ∧ ((x.length + y.length : Nat) : Int) ≤ 16) by omega), decide_eq_true (show ((x.length + y.length : Nat) : Int) > 16 by omega), Bool.not_false, no1, no2]
          exact ⟨_, _, _, rfl, rfl, by decide⟩

end Go.Proofs.Yteabfdcobkgmmaa.LemFnExactJoinGraphs
