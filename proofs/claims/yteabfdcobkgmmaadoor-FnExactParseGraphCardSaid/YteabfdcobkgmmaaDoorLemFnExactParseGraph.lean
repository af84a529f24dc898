/- Lemmas on the printed functions of FnExactParseGraph: what loops and calls come to, at natural numbers in range. -/
import Derived.Test.YteabfdcobkgmmaaDoorPFnExactParseGraphx
import Derived.Test.YteabfdcobkgmmaaDoorBit
import Derived.Test.YteabfdcobkgmmaaDoorGra
import Derived.Lib.ItoaNum
import Derived.Lib.Join
import Derived.Test.YteabfdcobkgmmaaDoorRow
namespace Go.Proofs.YteabfdcobkgmmaaDoor.LemFnExactParseGraph
open Go.RowKit Go.Proofs.YteabfdcobkgmmaaDoor.PFnExactParseGraph Go.Proofs.YteabfdcobkgmmaaDoorW.PrintWords Go.Proofs.YteabfdcobkgmmaaDoorW.PrintLast Go.Proofs.YteabfdcobkgmmaaDoor.Bit Go.Proofs.YteabfdcobkgmmaaDoor.Row Go.Proofs.YteabfdcobkgmmaaDoor.Lin Go.Proofs.YteabfdcobkgmmaaDoor.Gra
set_option linter.unusedVariables false
set_option linter.unusedSimpArgs false

theorem eqIntS_l (l : List Int) (hl : l.length < 2 ^ 62) : ∀ n i k, i + n = l.length → n < k → laws_eqIntS.l0 k l l (i : Int) = some true := by
  intro n
  induction n with
  | zero =>
    intro i k hi hk
    obtain ⟨k, rfl⟩ : ∃ m, k = m + 1 := ⟨k - 1, by omega⟩
    rw [laws_eqIntS.l0, if_neg (by omega)]
  | succ n ih =>
    intro i k hi hk
    obtain ⟨k, rfl⟩ : ∃ m, k = m + 1 := ⟨k - 1, by omega⟩
    rw [laws_eqIntS.l0, if_pos (by omega), if_pos (by omega), if_pos (by omega), if_pos rfl, show ((i : Int) + 1) = ((i + 1 : Nat) : Int) from rfl, wrapn _ (by omega)]
    exact ih (i + 1) k (by omega) (by omega)
/-- A list is equal to itself. -/
theorem eqIntS_self (l : List Int) (hl : l.length < 2 ^ 62) (k : Nat) (hk : l.length < k) : laws_eqIntS.f k l l = some true := by
  unfold laws_eqIntS.f
  rw [if_pos rfl]
  exact eqIntS_l l hl l.length 0 k (by omega) hk
/-- 1, 2, .., n. -/
def marks (n : Nat) : List Int := (List.range n).map fun i => ((i + 1 : Nat) : Int)
theorem marks_length (n : Nat) : (marks n).length = n := by simp [marks]
theorem marks_succ (n : Nat) : marks (n + 1) = marks n ++ [((n + 1 : Nat) : Int)] := by simp [marks, List.range_succ]
theorem marks_rd (n i : Nat) (h : i < n) : rd (marks n) (i : Int) = ((i + 1 : Nat) : Int) := by
  unfold rd marks
  rw [Int.toNat_natCast, List.getD_eq_getElem?_getD, List.getElem?_map, List.getElem?_range h]; rfl
theorem mark_set (l : List Int) (i : Nat) (h : i < l.length) : (marks i ++ l.drop i).set i ((i + 1 : Nat) : Int) = marks (i + 1) ++ l.drop (i + 1) := by
  rw [List.set_append_right _ _ (by rw [marks_length]; omega), marks_length, Nat.sub_self, List.drop_eq_getElem_cons h, List.set_cons_zero, marks_succ, List.append_assoc]; rfl
theorem mark_l (l : List Int) (hl : l.length < 2 ^ 62) : ∀ n i k, i + n = l.length → n < k → laws_markIntS.l0 k (marks i ++ l.drop i) ((i + 1 : Nat) : Int) (i : Int) = some (((l.length + 1 : Nat) : Int), marks l.length) := by
  intro n
  induction n with
  | zero =>
    intro i k hi hk
    obtain ⟨k, rfl⟩ : ∃ m, k = m + 1 := ⟨k - 1, by omega⟩
    obtain rfl : i = l.length := by omega
    rw [laws_markIntS.l0, if_neg (by simp [marks_length]), List.drop_length, List.append_nil]
  | succ n ih =>
    intro i k hi hk
    obtain ⟨k, rfl⟩ : ∃ m, k = m + 1 := ⟨k - 1, by omega⟩
    rw [laws_markIntS.l0, if_pos (by simp [marks_length]; omega), if_pos (by omega), Int.toNat_natCast, mark_set l i (by omega), show ((i + 1 : Nat) : Int) + 1 = ((i + 1 + 1 : Nat) : Int) from rfl, show ((i : Int) + 1) = ((i + 1 : Nat) : Int) from rfl, wrapn _ (by omega), wrapn _ (by omega)]
    exact ih (i + 1) k (by omega) (by omega)
theorem mark_any (l : List Int) (hl : l.length < 2 ^ 62) (k : Nat) (hk : l.length < k) : laws_markIntS.f k l 1 = some (((l.length + 1 : Nat) : Int), marks l.length) := by
  have := mark_l l hl l.length 0 k (by omega) hk
  unfold laws_markIntS.f
  simpa [marks] using this
theorem held_l (m : Nat) (hm : m < 2 ^ 62) : ∀ n i k, i + n = m → n < k → laws_heldIntS.l0 k (marks m) ((i + 1 : Nat) : Int) (i : Int) = some ((m + 1 : Nat) : Int) := by
  intro n
  induction n with
  | zero =>
    intro i k hi hk
    obtain ⟨k, rfl⟩ : ∃ m, k = m + 1 := ⟨k - 1, by omega⟩
    obtain rfl : i = m := by omega
    rw [laws_heldIntS.l0, if_neg (by rw [marks_length]; omega)]
  | succ n ih =>
    intro i k hi hk
    obtain ⟨k, rfl⟩ : ∃ m, k = m + 1 := ⟨k - 1, by omega⟩
    rw [laws_heldIntS.l0, if_pos (by rw [marks_length]; omega), if_pos (by omega), if_pos (marks_rd m i (by omega)), show ((i + 1 : Nat) : Int) + 1 = ((i + 1 + 1 : Nat) : Int) from rfl, show ((i : Int) + 1) = ((i + 1 : Nat) : Int) from rfl, wrapn _ (by omega), wrapn _ (by omega)]
    exact ih (i + 1) k (by omega) (by omega)
theorem held_any (m : Nat) (hm : m < 2 ^ 62) (k : Nat) (hk : m < k) : laws_heldIntS.f k (marks m) 1 = some ((m + 1 : Nat) : Int) :=
  held_l m hm m 0 k (by omega) hk
theorem in_f (a b c : Int) : impl_in.f a b c = some (decide (b ≤ a ∧ a ≤ c)) := by
  unfold impl_in.f
  split
  · rename_i h; simp [h]
  · rename_i h; simp [h]
theorem l1In_f (a b c : Int) : spec_l1In.f a b c = some (decide (b ≤ a ∧ a ≤ c)) := by
  unfold spec_l1In.f
  split
  · rename_i h; simp [show b ≤ a from h]
  · rename_i h; simp [show ¬ b ≤ a from h]
theorem has_f (x i : Nat) (hx : x < 2 ^ 63) : impl_has.f (x : Int) (i : Int) = some (x.testBit i) := by
  unfold impl_has.f
  rw [if_pos (Int.natCast_nonneg _), shrn x i hx, show (1 : Int) = ((1 : Nat) : Int) from rfl, andn _ _ (Nat.lt_of_le_of_lt (Nat.div_le_self _ _) hx) (by decide), Nat.and_one_is_mod, Nat.testBit_eq_decide_div_mod_eq]
  congr 1
  rcases Nat.mod_two_eq_zero_or_one (x / 2 ^ i) with h | h <;> rw [h] <;> rfl
theorem grIn_f (x i : Nat) (hx : x < 2 ^ 63) : spec_grIn.f (x : Int) (i : Int) = some (x.testBit i) := by
  unfold spec_grIn.f
  rw [if_pos (Int.natCast_nonneg _), shrn x i hx, Nat.testBit_eq_decide_div_mod_eq]
  congr 1
  have e : Int.tmod ((x / 2 ^ i : Nat) : Int) 2 = ((x / 2 ^ i % 2 : Nat) : Int) := rfl
  rw [e]
  rcases Nat.mod_two_eq_zero_or_one (x / 2 ^ i) with h | h <;> rw [h] <;> rfl
theorem l1All_l (l : List Int) (a b : Int) (hl : l.length < 2 ^ 62) : ∀ n i k, i + n = l.length → n < k → spec_l1All.l0 k a b l (l.length : Int) (i : Int) = some (decide (∀ x ∈ l.drop i, a ≤ x ∧ x ≤ b)) := by
  intro n
  induction n with
  | zero =>
    intro i k hi hk
    obtain ⟨k, rfl⟩ : ∃ m, k = m + 1 := ⟨k - 1, by omega⟩
    rw [spec_l1All.l0, if_neg (by omega), show l.drop i = [] from List.drop_eq_nil_of_le (by omega)]
    simp
  | succ n ih =>
    intro i k hi hk
    obtain ⟨k, rfl⟩ : ∃ m, k = m + 1 := ⟨k - 1, by omega⟩
    have hlt : i < l.length := by omega
    have e : rd l (i : Int) = l[i] := by
      unfold rd
      rw [Int.toNat_natCast, List.getD_eq_getElem?_getD, List.getElem?_eq_getElem hlt]; rfl
    rw [spec_l1All.l0, if_pos (by omega), if_pos (by omega), if_pos (by omega), l1In_f, e]
    simp only [bs]
    rw [List.drop_eq_getElem_cons hlt]
    by_cases h : a ≤ l[i] ∧ l[i] ≤ b
    · rw [decide_eq_true h, if_pos rfl, show ((i : Int) + 1) = ((i + 1 : Nat) : Int) from rfl, wrapn _ (by omega), ih (i + 1) k (by omega) (by omega)]
      congr 1
      rw [decide_eq_decide, List.forall_mem_cons]
      exact ⟨fun hh => ⟨h, hh⟩, fun hh => hh.2⟩
    · rw [decide_eq_false h, if_neg (by decide)]
      congr 1
      symm
      rw [decide_eq_false_iff_not]
      exact fun hh => h (hh _ (List.mem_cons_self ..))
theorem l1All_f (l : List Int) (a b : Int) (hl : l.length < 2 ^ 62) (k : Nat) (hk : l.length < k) : spec_l1All.f k l a b = some (decide (∀ x ∈ l, a ≤ x ∧ x ≤ b)) := by
  unfold spec_l1All.f
  exact l1All_l l a b hl l.length 0 k (by omega) hk
theorem eqGraph_self (l : List Int) (own : Bool) (hl : l.length < 2 ^ 62) (k : Nat) (hk : l.length < k) : laws_eqGraph.f k l own l own = some true := by
  unfold laws_eqGraph.f
  rw [eqIntS_self l hl k hk]
  simp only [bs, if_true, bne_self_eq_false, Bool.false_eq_true, if_false]
theorem markGraph_any (l : List Int) (own : Bool) (hl : l.length < 2 ^ 62) (k : Nat) (hk : l.length < k) : laws_markGraph.f k l own 1 = some (((l.length + 1 : Nat) : Int), marks l.length) := by
  unfold laws_markGraph.f
  rw [mark_any l hl k hk]
  simp only [bs]
theorem heldGraph_any (m : Nat) (own : Bool) (hm : m < 2 ^ 62) (k : Nat) (hk : m < k) : laws_heldGraph.f k (marks m) own 1 = some ((m + 1 : Nat) : Int) := by
  unfold laws_heldGraph.f
  rw [held_any m hm k hk]
  simp only [bs]
  rw [if_neg (by omega)]
/-- s, s + 1, .., n of them. -/
def seqs (s n : Nat) : List Int := (List.range n).map fun i => ((s + i : Nat) : Int)
theorem seqs_length (s n : Nat) : (seqs s n).length = n := by simp [seqs]
theorem seqs_succ (s n : Nat) : seqs s (n + 1) = seqs s n ++ [((s + n : Nat) : Int)] := by simp [seqs, List.range_succ]
theorem seqs_rd (s n i : Nat) (h : i < n) : rd (seqs s n) (i : Int) = ((s + i : Nat) : Int) := by
  unfold rd seqs
  rw [Int.toNat_natCast, List.getD_eq_getElem?_getD, List.getElem?_map, List.getElem?_range h]; rfl
theorem seqs_set (s : Nat) (l : List Int) (i : Nat) (h : i < l.length) : (seqs s i ++ l.drop i).set i ((s + i : Nat) : Int) = seqs s (i + 1) ++ l.drop (i + 1) := by
  rw [List.set_append_right _ _ (by rw [seqs_length]; omega), seqs_length, Nat.sub_self, List.drop_eq_getElem_cons h, List.set_cons_zero, seqs_succ, List.append_assoc]; rfl
theorem markN_l (s : Nat) (l : List Int) (hl : l.length < 2 ^ 61) (hs : s < 2 ^ 61) : ∀ n i k, i + n = l.length → n < k → laws_markIntS.l0 k (seqs s i ++ l.drop i) ((s + i : Nat) : Int) (i : Int) = some (((s + l.length : Nat) : Int), seqs s l.length) := by
  intro n
  induction n with
  | zero =>
    intro i k hi hk
    obtain ⟨k, rfl⟩ : ∃ m, k = m + 1 := ⟨k - 1, by omega⟩
    obtain rfl : i = l.length := by omega
    rw [laws_markIntS.l0, if_neg (by simp [seqs_length]), List.drop_length, List.append_nil]
  | succ n ih =>
    intro i k hi hk
    obtain ⟨k, rfl⟩ : ∃ m, k = m + 1 := ⟨k - 1, by omega⟩
    rw [laws_markIntS.l0, if_pos (by simp [seqs_length]; omega), if_pos (by omega), Int.toNat_natCast, seqs_set s l i (by omega), show ((s + i : Nat) : Int) + 1 = ((s + (i + 1) : Nat) : Int) from rfl, show ((i : Int) + 1) = ((i + 1 : Nat) : Int) from rfl, wrapn _ (by omega), wrapn _ (by omega)]
    exact ih (i + 1) k (by omega) (by omega)
theorem markN_f (s : Nat) (l : List Int) (hl : l.length < 2 ^ 61) (hs : s < 2 ^ 61) (k : Nat) (hk : l.length < k) : laws_markIntS.f k l (s : Int) = some (((s + l.length : Nat) : Int), seqs s l.length) := by
  have := markN_l s l hl hs l.length 0 k (by omega) hk
  unfold laws_markIntS.f
  simpa [seqs] using this
theorem heldN_l (s m : Nat) (hm : m < 2 ^ 61) (hs : s < 2 ^ 61) : ∀ n i k, i + n = m → n < k → laws_heldIntS.l0 k (seqs s m) ((s + i : Nat) : Int) (i : Int) = some ((s + m : Nat) : Int) := by
  intro n
  induction n with
  | zero =>
    intro i k hi hk
    obtain ⟨k, rfl⟩ : ∃ m, k = m + 1 := ⟨k - 1, by omega⟩
    obtain rfl : i = m := by omega
    rw [laws_heldIntS.l0, if_neg (by rw [seqs_length]; omega)]
  | succ n ih =>
    intro i k hi hk
    obtain ⟨k, rfl⟩ : ∃ m, k = m + 1 := ⟨k - 1, by omega⟩
    rw [laws_heldIntS.l0, if_pos (by rw [seqs_length]; omega), if_pos (by omega), if_pos (seqs_rd s m i (by omega)), show ((s + i : Nat) : Int) + 1 = ((s + (i + 1) : Nat) : Int) from rfl, show ((i : Int) + 1) = ((i + 1 : Nat) : Int) from rfl, wrapn _ (by omega), wrapn _ (by omega)]
    exact ih (i + 1) k (by omega) (by omega)
theorem heldN_f (s m : Nat) (hm : m < 2 ^ 61) (hs : s < 2 ^ 61) (k : Nat) (hk : m < k) : laws_heldIntS.f k (seqs s m) (s : Int) = some ((s + m : Nat) : Int) := by
  unfold laws_heldIntS.f
  exact heldN_l s m hm hs m 0 k (by omega) hk
theorem markNG_f (s : Nat) (l : List Int) (o : Bool) (hl : l.length < 2 ^ 61) (hs : s < 2 ^ 61) (k : Nat) (hk : l.length < k) : laws_markGraph.f k l o (s : Int) = some (((s + l.length : Nat) : Int), seqs s l.length) := by
  unfold laws_markGraph.f
  rw [markN_f s l hl hs k hk]
  simp only [bs]
theorem heldNG_f (s m : Nat) (o : Bool) (hm : m < 2 ^ 61) (hs : s < 2 ^ 61) (k : Nat) (hk : m < k) : laws_heldGraph.f k (seqs s m) o (s : Int) = some ((s + m : Nat) : Int) := by
  unfold laws_heldGraph.f
  rw [heldN_f s m hm hs k hk]
  simp only [bs]
  rw [if_neg (by omega)]
/-- The edges of button i to the last d buttons. -/
def eIn (m : List Nat) (i : Nat) : Nat → List (List Int)
  | 0 => []
  | d + 1 => if (nth m i).testBit (m.length - (d + 1)) = true then [(i : Int), ((m.length - (d + 1) : Nat) : Int)] :: eIn m i d else eIn m i d
/-- The edges of the last d buttons to the ones behind. -/
def eOut (m : List Nat) : Nat → List (List Int)
  | 0 => []
  | d + 1 => eIn m (m.length - (d + 1)) d ++ eOut m d
/-- An edge of n buttons. -/
def Edge (n : Nat) (e : List Int) : Prop := ∃ a b : Nat, e = [(a : Int), (b : Int)] ∧ a < n ∧ b < n
theorem eIn_len (m : List Nat) (i : Nat) : ∀ d, (eIn m i d).length ≤ d
  | 0 => Nat.le_refl _
  | d + 1 => by
    have := eIn_len m i d
    unfold eIn
    split
    · rw [List.length_cons]; omega
    · omega
theorem eIn_edge (m : List Nat) (i : Nat) (hi : i < m.length) : ∀ d, d ≤ m.length → ∀ e ∈ eIn m i d, Edge m.length e
  | 0, _ => fun e h => (by cases h)
  | d + 1, hd => by
    intro e h
    unfold eIn at h
    split at h
    · rcases List.mem_cons.1 h with rfl | h
      · exact ⟨i, m.length - (d + 1), rfl, hi, by omega⟩
      · exact eIn_edge m i hi d (by omega) e h
    · exact eIn_edge m i hi d (by omega) e h
theorem eOut_edge (m : List Nat) : ∀ d, d ≤ m.length → ∀ e ∈ eOut m d, Edge m.length e
  | 0, _ => fun e h => (by cases h)
  | d + 1, hd => by
    intro e h
    unfold eOut at h
    rcases List.mem_append.1 h with h | h
    · exact eIn_edge m _ (by omega) d (by omega) e h
    · exact eOut_edge m d (by omega) e h
theorem eOut_len (m : List Nat) : ∀ d, d ≤ 16 → (eOut m d).length ≤ d * 16
  | 0, _ => Nat.le_refl _
  | d + 1, h => by
    have h1 := eOut_len m d (by omega)
    have h2 := eIn_len m (m.length - (d + 1)) d
    unfold eOut
    rw [List.length_append]; omega
theorem sEdg1 (m : List Nat) (hm : Gra.Good m) (own : Bool) (K d : Nat) (hd : d < m.length) (acc0 : Nat)
    (H : ∀ k acc, K ≤ k → acc.length ≤ acc0 → spec_grEdges.l0 k acc (zs m) (m.length : Int) ((m.length - d : Nat) : Int) (zs m) own = some (acc ++ eOut m d)) :
    ∀ e, e ≤ d → ∀ k acc, K + e + 1 ≤ k → acc.length + e ≤ acc0 → acc0 ≤ 2000 → spec_grEdges.l1 k acc ((m.length - (d + 1) : Nat) : Int) ((nth m (m.length - (d + 1)) : Nat) : Int) ((m.length - e : Nat) : Int) (zs m) (m.length : Int) ((m.length - (d + 1) : Nat) : Int) (zs m) own = some (acc ++ (eIn m (m.length - (d + 1)) e ++ eOut m d)) := by
  intro e
  induction e with
  | zero =>
    intro _ k acc hk ha _
    obtain ⟨k, rfl⟩ : ∃ m, k = m + 1 := ⟨k - 1, by omega⟩
    rw [spec_grEdges.l1, if_neg (by rw [zs_length]; omega), show ((m.length - (d + 1) : Nat) : Int) + 1 = ((m.length - d : Nat) : Int) by omega, wrapn _ (by have := hm.le; omega), H k acc (by omega) (by omega)]
    rfl
  | succ e ih =>
    intro he k acc hk ha h0
    obtain ⟨k, rfl⟩ : ∃ m, k = m + 1 := ⟨k - 1, by omega⟩
    have e1 : ((m.length - (e + 1) : Nat) : Int) + 1 = ((m.length - e : Nat) : Int) := by omega
    rw [spec_grEdges.l1, if_pos (by rw [zs_length]; omega), grIn_f _ _ (Nat.lt_trans (hm.bound _) (by decide)), e1, wrapn _ (by have := hm.le; omega)]
    simp only [bs]
    unfold eIn
    by_cases hb : (nth m (m.length - (d + 1))).testBit (m.length - (e + 1)) = true
    · rw [if_pos hb, if_pos hb, if_pos (by omega), ih (by omega) k _ (by omega) (by rw [List.length_append, List.length_singleton]; omega) h0, List.append_assoc]; rfl
    · rw [if_neg hb, if_neg hb, ih (by omega) k acc (by omega) (by omega) h0]
theorem sEdg0 (m : List Nat) (hm : Gra.Good m) (own : Bool) : ∀ d, d ≤ m.length → ∀ k acc, 40 * (d + 1) ≤ k → acc.length ≤ 1000 - 20 * d → spec_grEdges.l0 k acc (zs m) (m.length : Int) ((m.length - d : Nat) : Int) (zs m) own = some (acc ++ eOut m d) := by
  intro d
  induction d with
  | zero =>
    intro _ k acc hk _
    obtain ⟨k, rfl⟩ : ∃ m, k = m + 1 := ⟨k - 1, by omega⟩
    rw [spec_grEdges.l0, if_neg (by omega), eOut, List.append_nil]
  | succ d ih =>
    intro hd k acc hk ha
    have h16 := hm.le
    obtain ⟨k, rfl⟩ : ∃ m, k = m + 1 := ⟨k - 1, by omega⟩
    have e1 : ((m.length - (d + 1) : Nat) : Int) + 1 = ((m.length - d : Nat) : Int) := by omega
    rw [spec_grEdges.l0, if_pos (by omega), if_pos (by omega), if_pos (by rw [zs_length]; omega), rd_nth, e1, wrapn _ (by omega), sEdg1 m hm own (40 * (d + 1)) d (by omega) (1000 - 20 * d) (fun k acc hk ha => ih (by omega) k acc hk ha) d (Nat.le_refl _) k acc (by omega) (by omega) (by omega)]
    rfl
theorem iEdg1 (m : List Nat) (hm : Gra.Good m) (own : Bool) (K d : Nat) (hd : d < m.length) (acc0 : Nat)
    (H : ∀ k acc, K ≤ k → acc.length ≤ acc0 → impl_Graph_edges.l0 k acc (zs m) (m.length : Int) ((m.length - d : Nat) : Int) (zs m) own = some (acc ++ eOut m d)) :
    ∀ e, e ≤ d → ∀ k acc, K + e + 1 ≤ k → acc.length + e ≤ acc0 → acc0 ≤ 2000 → impl_Graph_edges.l1 k acc ((m.length - (d + 1) : Nat) : Int) ((nth m (m.length - (d + 1)) : Nat) : Int) ((m.length - e : Nat) : Int) (zs m) (m.length : Int) ((m.length - (d + 1) : Nat) : Int) (zs m) own = some (acc ++ (eIn m (m.length - (d + 1)) e ++ eOut m d)) := by
  intro e
  induction e with
  | zero =>
    intro _ k acc hk ha _
    obtain ⟨k, rfl⟩ : ∃ m, k = m + 1 := ⟨k - 1, by omega⟩
    rw [impl_Graph_edges.l1, if_neg (by rw [zs_length]; omega), show ((m.length - (d + 1) : Nat) : Int) + 1 = ((m.length - d : Nat) : Int) by omega, wrapn _ (by have := hm.le; omega), H k acc (by omega) (by omega)]
    rfl
  | succ e ih =>
    intro he k acc hk ha h0
    obtain ⟨k, rfl⟩ : ∃ m, k = m + 1 := ⟨k - 1, by omega⟩
    have e1 : ((m.length - (e + 1) : Nat) : Int) + 1 = ((m.length - e : Nat) : Int) := by omega
    rw [impl_Graph_edges.l1, if_pos (by rw [zs_length]; omega), has_f _ _ (Nat.lt_trans (hm.bound _) (by decide)), e1, wrapn _ (by have := hm.le; omega)]
    simp only [bs]
    unfold eIn
    by_cases hb : (nth m (m.length - (d + 1))).testBit (m.length - (e + 1)) = true
    · rw [if_pos hb, if_pos hb, if_pos (by omega), ih (by omega) k _ (by omega) (by rw [List.length_append, List.length_singleton]; omega) h0, List.append_assoc]; rfl
    · rw [if_neg hb, if_neg hb, ih (by omega) k acc (by omega) (by omega) h0]
theorem iEdg0 (m : List Nat) (hm : Gra.Good m) (own : Bool) : ∀ d, d ≤ m.length → ∀ k acc, 40 * (d + 1) ≤ k → acc.length ≤ 1000 - 20 * d → impl_Graph_edges.l0 k acc (zs m) (m.length : Int) ((m.length - d : Nat) : Int) (zs m) own = some (acc ++ eOut m d) := by
  intro d
  induction d with
  | zero =>
    intro _ k acc hk _
    obtain ⟨k, rfl⟩ : ∃ m, k = m + 1 := ⟨k - 1, by omega⟩
    rw [impl_Graph_edges.l0, if_neg (by omega), eOut, List.append_nil]
  | succ d ih =>
    intro hd k acc hk ha
    have h16 := hm.le
    obtain ⟨k, rfl⟩ : ∃ m, k = m + 1 := ⟨k - 1, by omega⟩
    have e1 : ((m.length - (d + 1) : Nat) : Int) + 1 = ((m.length - d : Nat) : Int) := by omega
    rw [impl_Graph_edges.l0, if_pos (by omega), if_pos (by omega), if_pos (by rw [zs_length]; omega), rd_nth, e1, wrapn _ (by omega), iEdg1 m hm own (40 * (d + 1)) d (by omega) (1000 - 20 * d) (fun k acc hk ha => ih (by omega) k acc hk ha) d (Nat.le_refl _) k acc (by omega) (by omega) (by omega)]
    rfl
/-- Both tell the same edges. -/
theorem sEdges (m : List Nat) (hm : Gra.Good m) (own : Bool) (k : Nat) (hk : 700 ≤ k) : spec_grEdges.f k (zs m) own = some (eOut m m.length) := by
  have h := sEdg0 m hm own m.length (Nat.le_refl _) k [] (by have := hm.le; omega) (Nat.zero_le _)
  rw [Nat.sub_self] at h
  unfold spec_grEdges.f
  rw [zs_length]; exact h
theorem iEdges (m : List Nat) (hm : Gra.Good m) (own : Bool) (k : Nat) (hk : 700 ≤ k) : impl_Graph_edges.f k (zs m) own = some (eOut m m.length) := by
  have h := iEdg0 m hm own m.length (Nat.le_refl _) k [] (by have := hm.le; omega) (Nat.zero_le _)
  rw [Nat.sub_self] at h
  unfold impl_Graph_edges.f
  rw [zs_length]; exact h
theorem markE_f (s : Nat) (l : List Int) (o : Bool) (hl : l.length < 2 ^ 61) (hs : s < 2 ^ 61) (k : Nat) (hk : l.length < k) : laws_markGraph.f k l o (s : Int) = some (((s + l.length : Nat) : Int), seqs s l.length) := by
  unfold laws_markGraph.f
  rw [markN_f s l hl hs k hk]
  simp only [bs]
/-- A string of bytes. -/
def B (l : List UInt8) : ByteArray := ⟨l.toArray⟩
theorem B_app (a b : List UInt8) : B a ++ B b = B (a ++ b) := by
  apply ByteArray.ext
  unfold B
  rw [ByteArray.data_append]; simp
theorem B_size (l : List UInt8) : (B l).size = l.length := by
  show l.toArray.size = l.length
  simp
theorem B_list (l : List UInt8) : (B l).data.toList = l := by simp [B]
theorem c43 : (⟨#[43]⟩ : ByteArray) = B [43] := rfl
theorem c44 : (⟨#[44]⟩ : ByteArray) = B [44] := rfl
theorem c45 : (⟨#[45]⟩ : ByteArray) = B [45] := rfl
theorem c58 : (⟨#[58]⟩ : ByteArray) = B [58] := rfl
/-- Two decimal digits at most. -/
def dec (n : Nat) : List UInt8 := if n < 10 then [UInt8.ofNat (48 + n)] else [UInt8.ofNat (48 + n / 10), UInt8.ofNat (48 + n % 10)]
theorem dec_digits (n : Nat) (h : n < 100) : Lib.decDigits n = dec n := by
  unfold dec
  by_cases h1 : n < 10
  · rw [if_pos h1, Lib.decDigits_one h1]
  · rw [if_neg h1, Lib.decDigits_two h1 h]
theorem dec_len (n : Nat) : (dec n).length ≤ 2 := by
  unfold dec
  split <;> simp
theorem nums_one (m : Nat) : strOfNums [((m : Nat) : Int)] = B [UInt8.ofNat m] := rfl
theorem num_one (n : Nat) (h : n < 10) (k : Nat) (hk : 1 ≤ k) : spec_l1Num.f k (n : Int) = some (B (dec n)) := by
  obtain ⟨k, rfl⟩ : ∃ m, k = m + 1 := ⟨k - 1, by omega⟩
  have e : wrap64 (48 + (n : Int)) % 256 = ((48 + n : Nat) : Int) := by unfold wrap64; omega
  rw [spec_l1Num.f, if_pos (by omega), e, nums_one]
  unfold dec
  rw [if_pos h]
theorem num_f (n : Nat) (h : n ≤ 16) (k : Nat) (hk : 2 ≤ k) : spec_l1Num.f k (n : Int) = some (B (dec n)) := by
  by_cases h1 : n < 10
  · exact num_one n h1 k (by omega)
  · obtain ⟨k, rfl⟩ : ∃ m, k = m + 1 := ⟨k - 1, by omega⟩
    have e1 : wrap64 (Int.tdiv (n : Int) 10) = ((n / 10 : Nat) : Int) := by
      rw [show Int.tdiv (n : Int) 10 = ((n / 10 : Nat) : Int) from rfl]; unfold wrap64; omega
    have e2 : wrap64 (48 + Int.tmod (n : Int) 10) % 256 = ((48 + n % 10 : Nat) : Int) := by
      rw [show Int.tmod (n : Int) 10 = ((n % 10 : Nat) : Int) from rfl]; unfold wrap64; omega
    rw [spec_l1Num.f, if_neg (by omega), e1, num_one (n / 10) (by omega) k (by omega)]
    simp only [bs, e2, nums_one, B_size, B_app]
    have hd := dec_len (n / 10)
    rw [if_pos (by simp only [List.length_cons, List.length_nil]; omega)]
    unfold dec
    rw [if_pos (by omega), if_neg h1]; rfl
theorem itoa_f (n : Nat) (h : n ≤ 16) : strconv_Itoa.f (n : Int) = some (B (dec n)) := by
  unfold strconv_Itoa.f
  rw [if_pos (by omega), Int.toNat_natCast, dec_digits n (by omega)]; rfl
/-- An edge's word. -/
def tx (e : List Int) : List UInt8 := dec (rd e 0).toNat ++ 45 :: dec (rd e 1).toNat
theorem tx_len (e : List Int) : (tx e).length ≤ 5 := by
  have h1 := dec_len (rd e 0).toNat
  have h2 := dec_len (rd e 1).toNat
  unfold tx
  rw [List.length_append, List.length_cons]; omega
theorem join_snoc (l : List (List UInt8)) (x sep : List UInt8) (h : l ≠ []) : Lib.join (l ++ [x]) sep = Lib.join l sep ++ (sep ++ x) := by
  cases l with
  | nil => exact absurd rfl h
  | cons y r =>
    rw [List.cons_append, Lib.join_cons, Lib.join_cons]
    simp [Lib.joinTail, List.append_assoc]
/-- The first words, joined. -/
def jn (es : List (List Int)) (i : Nat) : List UInt8 := Lib.join ((es.take i).map tx) [44]
theorem jn_zero (es : List (List Int)) : jn es 0 = [] := rfl
theorem jn_one (es : List (List Int)) (h : 0 < es.length) : jn es 1 = tx es[0] := by
  unfold jn
  rw [List.take_succ_eq_append_getElem h]
  exact Lib.join_one _ _
theorem jn_succ (es : List (List Int)) (i : Nat) (h : i < es.length) (h0 : 0 < i) : jn es (i + 1) = jn es i ++ (44 :: tx es[i]) := by
  unfold jn
  rw [List.take_succ_eq_append_getElem h, List.map_append, List.map_singleton, join_snoc]
  · rfl
  · intro e
    have := congrArg List.length e
    rw [List.length_map, List.length_take, List.length_nil] at this; omega
theorem jn_len (es : List (List Int)) : ∀ i, i ≤ es.length → (jn es i).length ≤ 6 * i
  | 0, _ => Nat.le_refl _
  | i + 1, h => by
    have ih := jn_len es i (by omega)
    by_cases h0 : 0 < i
    · rw [jn_succ es i (by omega) h0, List.length_append, List.length_cons]
      have := tx_len es[i]; omega
    · obtain rfl : i = 0 := by omega
      rw [jn_one es (by omega)]
      have := tx_len es[0]; omega
/-- The text of a graph of n buttons with given edges. -/
def txt (n : Nat) (own : Bool) (es : List (List Int)) : List UInt8 := (dec n ++ if own then [43] else []) ++ (58 :: (if es.length = 0 then [45] else jn es es.length))
theorem grText_l (n : Nat) (hn : n ≤ 16) (es : List (List Int)) (hE : ∀ e ∈ es, Edge n e) (hl : es.length ≤ 1000) (pre : List UInt8) (hp : pre.length ≤ 1000) :
    ∀ d i k, i + d = es.length → d + 10 < k → spec_grText.l0 k (B (pre ++ jn es i)) es (es.length : Int) (i : Int) = some (B (pre ++ jn es es.length)) := by
  intro d
  induction d with
  | zero =>
    intro i k hi hk
    obtain ⟨k, rfl⟩ : ∃ m, k = m + 1 := ⟨k - 1, by omega⟩
    rw [spec_grText.l0, if_neg (by omega), show i = es.length by omega]
  | succ d ih =>
    intro i k hi hk
    obtain ⟨k, rfl⟩ : ∃ m, k = m + 1 := ⟨k - 1, by omega⟩
    have hlt : i < es.length := by omega
    have hjl := jn_len es i (by omega)
    obtain ⟨a, b, he, ha, hb⟩ := hE _ (List.getElem_mem hlt)
    have e : rd_L2 es (i : Int) = [(a : Int), (b : Int)] := by
      unfold rd_L2
      rw [Int.toNat_natCast, List.getD_eq_getElem?_getD, List.getElem?_eq_getElem hlt]; exact he
    have et : tx es[i] = dec a ++ 45 :: dec b := by rw [he]; rfl
    have e0 : rd [(a : Int), (b : Int)] 0 = (a : Int) := rfl
    have e1 : rd [(a : Int), (b : Int)] 1 = (b : Int) := rfl
    have g1 : (i : Int) < (es.length : Int) := by omega
    have g2 : (0 : Int) ≤ (i : Int) := by omega
    have g3 : (0 : Int) < ([(a : Int), (b : Int)].length : Int) := by rw [show [(a : Int), (b : Int)].length = 2 from rfl]; decide
    have g4 : (1 : Int) < ([(a : Int), (b : Int)].length : Int) := by rw [show [(a : Int), (b : Int)].length = 2 from rfl]; decide
    have la := dec_len a
    have lb := dec_len b
    rw [spec_grText.l0, e]
    simp only [if_pos g1, if_pos g2, if_pos g3, if_pos g4, e0, e1]
    simp only [num_f a (by omega) k (by omega), num_f b (by omega) k (by omega), bs, c44, c45, B_app, B_size, List.length_append, List.length_cons, List.length_nil]
    have f1 : (dec a).length + (0 + 1) ≤ 9223372036854775807 := by omega
    have f2 : (dec a).length + (0 + 1) + (dec b).length ≤ 9223372036854775807 := by omega
    have f3 : pre.length + (jn es i).length + (0 + 1) ≤ 9223372036854775807 := by omega
    have f4 : pre.length + (jn es i).length + (0 + 1) + ((dec a).length + (0 + 1) + (dec b).length) ≤ 9223372036854775807 := by omega
    have f5 : pre.length + (jn es i).length + ((dec a).length + (0 + 1) + (dec b).length) ≤ 9223372036854775807 := by omega
    have en : ((i : Int) + 1) = ((i + 1 : Nat) : Int) := rfl
    have ihs := ih (i + 1) k (by omega) (by omega)
    by_cases h0 : 0 < i
    · rw [if_pos (show (i : Int) > 0 by omega)]
      rw [jn_succ es i hlt h0, et] at ihs
      rw [if_pos (by omega), if_pos (by omega), if_pos (by omega), if_pos (by omega), en, wrapn _ (by omega)]
      simpa [List.append_assoc] using ihs
    · obtain rfl : i = 0 := by omega
      rw [jn_one es (by omega), et] at ihs
      rw [if_neg (show ¬ ((0 : Nat) : Int) > 0 by decide), if_pos (by omega), if_pos (by omega), if_pos (by omega), en, wrapn _ (by omega)]
      simpa [jn_zero, List.append_assoc] using ihs
theorem graphText_l (n : Nat) (hn : n ≤ 16) (es : List (List Int)) (hE : ∀ e ∈ es, Edge n e) (hl : es.length ≤ 1000) (pre : List UInt8) (hp : pre.length ≤ 1000) :
    ∀ d i k, i + d = es.length → d + 10 < k → impl_graphText.l0 k (B pre) ((es.take i).map fun e => B (tx e)) es (es.length : Int) (i : Int) = some (B (pre ++ (58 :: (if es.length = 0 then [45] else jn es es.length)))) := by
  intro d
  induction d with
  | zero =>
    intro i k hi hk
    obtain ⟨k, rfl⟩ : ∃ m, k = m + 1 := ⟨k - 1, by omega⟩
    obtain rfl : i = es.length := by omega
    have hj : (List.map (fun e : ByteArray => e.data.toList) (es.map fun e => B (tx e))) = es.map tx := by
      rw [List.map_map]
      exact List.map_congr_left fun e _ => B_list _
    have hjl := jn_len es es.length (Nat.le_refl _)
    rw [impl_graphText.l0, if_neg (by omega), List.take_length, List.length_map]
    by_cases h0 : es.length = 0
    · rw [if_pos (by omega), if_pos h0, if_pos (by rw [B_size]; omega)]
      have e : strings_Join.f [(⟨#[45]⟩ : ByteArray)] (⟨#[44]⟩ : ByteArray) = some (B [45]) := by
        unfold strings_Join.f
        rw [List.map_singleton, Lib.join_one, if_pos ⟨by decide, by decide⟩]; rfl
      rw [e]
      simp only [bs, c58, B_app, B_size, List.length_append, List.length_cons, List.length_nil]
      rw [if_pos (by omega), List.append_assoc]; rfl
    · have e : strings_Join.f (es.map fun e => B (tx e)) (⟨#[44]⟩ : ByteArray) = some (B (jn es es.length)) := by
        unfold strings_Join.f jn at *
        rw [List.take_length] at hjl ⊢
        rw [hj, List.length_map, show ((⟨#[44]⟩ : ByteArray).data.toList) = [44] from rfl, if_pos ⟨hl, by omega⟩]; rfl
      rw [if_neg (by omega), if_neg h0, if_pos (by rw [B_size]; omega), e]
      simp only [bs, c58, B_app, B_size, List.length_append, List.length_cons, List.length_nil]
      rw [if_pos (by omega), List.append_assoc]; rfl
  | succ d ih =>
    intro i k hi hk
    obtain ⟨k, rfl⟩ : ∃ m, k = m + 1 := ⟨k - 1, by omega⟩
    have hlt : i < es.length := by omega
    obtain ⟨a, b, he, ha, hb⟩ := hE _ (List.getElem_mem hlt)
    have e : rd_L2 es (i : Int) = [(a : Int), (b : Int)] := by
      unfold rd_L2
      rw [Int.toNat_natCast, List.getD_eq_getElem?_getD, List.getElem?_eq_getElem hlt]; exact he
    have et : tx es[i] = dec a ++ 45 :: dec b := by rw [he]; rfl
    have e0 : rd [(a : Int), (b : Int)] 0 = (a : Int) := rfl
    have e1 : rd [(a : Int), (b : Int)] 1 = (b : Int) := rfl
    have g1 : (i : Int) < (es.length : Int) := by omega
    have g2 : (0 : Int) ≤ (i : Int) := by omega
    have g3 : (0 : Int) < ([(a : Int), (b : Int)].length : Int) := by rw [show [(a : Int), (b : Int)].length = 2 from rfl]; decide
    have g4 : (1 : Int) < ([(a : Int), (b : Int)].length : Int) := by rw [show [(a : Int), (b : Int)].length = 2 from rfl]; decide
    have la := dec_len a
    have lb := dec_len b
    have hw : ((es.take i).map fun e => B (tx e)).length = i := by rw [List.length_map, List.length_take]; omega
    rw [impl_graphText.l0, e, hw]
    simp only [if_pos g1, if_pos g2, if_pos g3, if_pos g4, e0, e1]
    simp only [itoa_f a (by omega), itoa_f b (by omega), bs, c45, B_app, B_size, List.length_append, List.length_cons, List.length_nil]
    have ihs := ih (i + 1) k (by omega) (by omega)
    rw [List.take_succ_eq_append_getElem hlt, List.map_append, List.map_singleton, et] at ihs
    rw [if_pos (by omega), if_pos (by omega), if_pos (by omega), show ((i : Int) + 1) = ((i + 1 : Nat) : Int) from rfl, wrapn _ (by omega)]
    simpa [List.append_assoc] using ihs
/-- The reference's text of a good graph. -/
theorem sText (m : List Nat) (hm : Gra.Good m) (own : Bool) (k : Nat) (hk : 1800 ≤ k) : spec_grText.f k (zs m) own = some (B (txt m.length own (eOut m m.length))) := by
  obtain ⟨k, rfl⟩ : ∃ q, k = q + 1 := ⟨k - 1, by omega⟩
  have h16 := hm.le
  have hel := eOut_len m m.length h16
  have hld := dec_len m.length
  have goal : ∀ pre : List UInt8, pre.length ≤ 10 → spec_grText.j0 (k + 1) (B pre) (zs m) own = some (B (pre ++ (58 :: (if (eOut m m.length).length = 0 then [45] else jn (eOut m m.length) (eOut m m.length).length)))) := by
    intro pre hp
    rw [spec_grText.j0, B_size, if_pos (by omega), sEdges m hm own k (by omega)]
    simp only [bs, c58, c45, B_app, B_size, List.length_append, List.length_cons, List.length_nil]
    by_cases h0 : (eOut m m.length).length = 0
    · rw [if_pos (by omega), if_pos (by omega), if_pos h0, List.append_assoc]; rfl
    · have := grText_l m.length h16 (eOut m m.length) (eOut_edge m _ (Nat.le_refl _)) (by omega) (pre ++ [58]) (by rw [List.length_append, List.length_cons, List.length_nil]; omega) (eOut m m.length).length 0 k (by omega) (by omega)
      rw [jn_zero, List.append_nil] at this
      rw [if_neg (by omega), if_neg h0]
      rw [List.append_assoc] at this
      exact this
  unfold spec_grText.f txt
  rw [zs_length, num_f m.length h16 _ (by omega)]
  simp only [bs]
  cases own with
  | true =>
    rw [if_pos rfl, B_size, if_pos (by omega), c43, B_app, goal _ (by rw [List.length_append, List.length_cons, List.length_nil]; omega)]; rfl
  | false =>
    rw [if_neg (by decide), goal _ (by omega)]
    simp only [Bool.false_eq_true, if_false, List.append_nil]
/-- The program's text of a good graph. -/
theorem iText (m : List Nat) (hm : Gra.Good m) (own : Bool) (k : Nat) (hk : 1800 ≤ k) : impl_graphText.f k (zs m) own = some (B (txt m.length own (eOut m m.length))) := by
  obtain ⟨k, rfl⟩ : ∃ q, k = q + 1 := ⟨k - 1, by omega⟩
  have h16 := hm.le
  have hel := eOut_len m m.length h16
  have hld := dec_len m.length
  have goal : ∀ pre : List UInt8, pre.length ≤ 10 → impl_graphText.j0 (k + 1) (B pre) (zs m) own = some (B (pre ++ (58 :: (if (eOut m m.length).length = 0 then [45] else jn (eOut m m.length) (eOut m m.length).length)))) := by
    intro pre hp
    rw [impl_graphText.j0, iEdges m hm own k (by omega)]
    simp only [bs]
    exact graphText_l m.length h16 (eOut m m.length) (eOut_edge m _ (Nat.le_refl _)) (by omega) pre (by omega) (eOut m m.length).length 0 k (by omega) (by omega)
  unfold impl_graphText.f txt
  rw [zs_length, itoa_f m.length h16]
  simp only [bs]
  cases own with
  | true =>
    rw [if_pos rfl, B_size, if_pos (by omega), c43, B_app, goal _ (by rw [List.length_append, List.length_cons, List.length_nil]; omega)]; rfl
  | false =>
    rw [if_neg (by decide), goal _ (by omega)]
    simp only [Bool.false_eq_true, if_false, List.append_nil]
/-- An edge added to both rows. -/
def addN (m : List Nat) (a b : Nat) : List Nat := (m.set a (nth m a ||| 2 ^ b)).set b (nth (m.set a (nth m a ||| 2 ^ b)) b ||| 2 ^ a)
theorem addN_length (m : List Nat) (a b : Nat) : (addN m a b).length = m.length := by unfold addN; rw [List.length_set, List.length_set]
theorem nth_set (m : List Nat) (i j x : Nat) (hi : i < m.length) : nth (m.set i x) j = if i = j then x else nth m j := by
  unfold nth
  rw [List.getD_eq_getElem?_getD, List.getElem?_set, List.getD_eq_getElem?_getD]
  by_cases h : i = j
  · rw [if_pos h, if_pos h, if_pos (h ▸ hi)]; rfl
  · rw [if_neg h, if_neg h]
theorem addN_bit (m : List Nat) (a b i j : Nat) (ha : a < m.length) (hb : b < m.length) : (nth (addN m a b) i).testBit j = true ↔ (nth m i).testBit j = true ∨ (i = a ∧ j = b) ∨ (i = b ∧ j = a) := by
  unfold addN
  have two : ∀ p q : Nat, (2 ^ p).testBit q = true ↔ q = p := fun p q => by
    rw [Nat.testBit_two_pow, decide_eq_true_eq]; exact ⟨Eq.symm, Eq.symm⟩
  rw [nth_set _ _ _ _ (by rw [List.length_set]; exact hb), nth_set m a b _ ha, nth_set m a i _ ha]
  by_cases h1 : b = i
  · rw [if_pos h1]
    by_cases h2 : a = b
    · rw [if_pos h2, Nat.testBit_or, Nat.testBit_or, Bool.or_eq_true, Bool.or_eq_true, two, two, ← h1, h2]
      constructor
      · rintro ((h | h) | h)
        · exact .inl h
        · exact .inr (.inl ⟨rfl, h⟩)
        · exact .inr (.inl ⟨rfl, h⟩)
      · rintro (h | ⟨_, h⟩ | ⟨_, h⟩)
        · exact .inl (.inl h)
        · exact .inl (.inr h)
        · exact .inl (.inr h)
    · rw [if_neg h2, Nat.testBit_or, Bool.or_eq_true, two, ← h1]
      constructor
      · rintro (h | h)
        · exact .inl h
        · exact .inr (.inr ⟨rfl, h⟩)
      · rintro (h | ⟨h, _⟩ | ⟨_, h⟩)
        · exact .inl h
        · exact absurd h.symm h2
        · exact .inr h
  · rw [if_neg h1]
    by_cases h2 : a = i
    · rw [if_pos h2, Nat.testBit_or, Bool.or_eq_true, two, ← h2]
      constructor
      · rintro (h | h)
        · exact .inl h
        · exact .inr (.inl ⟨rfl, h⟩)
      · rintro (h | ⟨_, h⟩ | ⟨h, _⟩)
        · exact .inl h
        · exact .inr h
        · exact absurd (h.symm.trans h2) h1
    · rw [if_neg h2]
      constructor
      · exact .inl
      · rintro (h | ⟨h, _⟩ | ⟨h, _⟩)
        · exact h
        · exact absurd h.symm h2
        · exact absurd h.symm h1
theorem addN_lt (m : List Nat) (a b : Nat) (ha : a < m.length) (hb : b < m.length) (h16 : m.length ≤ 16) (h : ∀ i, nth m i < 2 ^ 16) (i : Nat) : nth (addN m a b) i < 2 ^ 16 := by
  have p : ∀ q, q < m.length → 2 ^ q < 2 ^ 16 := fun q hq => Nat.pow_lt_pow_right (by decide) (by omega)
  unfold addN
  rw [nth_set _ _ _ _ (by rw [List.length_set]; exact hb), nth_set m a b _ ha, nth_set m a i _ ha]
  by_cases h1 : b = i
  · rw [if_pos h1]
    refine Nat.or_lt_two_pow ?_ (p a ha)
    split
    · exact Nat.or_lt_two_pow (h a) (p b hb)
    · exact h b
  · rw [if_neg h1]
    split
    · exact Nat.or_lt_two_pow (h a) (p b hb)
    · exact h i
theorem zs_set (m : List Nat) (a x : Nat) : (zs m).set a (x : Int) = zs (m.set a x) := by
  unfold zs
  rw [List.map_set]; rfl
theorem sAdd_f (m : List Nat) (own : Bool) (a b : Nat) (ha : a < m.length) (hb : b < m.length) (h16 : m.length ≤ 16) (h : ∀ i, nth m i < 2 ^ 16) : spec_grAdd.f (zs m) own (a : Int) (b : Int) = some (zs (addN m a b)) := by
  have p : ∀ q, q < m.length → 2 ^ q < 2 ^ 16 := fun q hq => Nat.pow_lt_pow_right (by decide) (by omega)
  have ha' := p a ha
  have hb' := p b hb
  have h1 := h a
  have h2 : nth (m.set a (nth m a ||| 2 ^ b)) b < 2 ^ 16 := by
    rw [nth_set m a b _ ha]
    split
    · exact Nat.or_lt_two_pow (h a) (p b hb)
    · exact h b
  unfold spec_grAdd.f addN
  rw [if_pos (by omega), if_pos (by rw [zs_length]; omega), if_pos (by omega), rd_nth, shl1 b (by omega), orn _ _ (by omega) (by omega), Int.toNat_natCast, zs_set]
  simp only [bs]
  rw [if_pos (by rw [zs_length]; omega), rd_nth, shl1 a (by omega), orn _ _ (by omega) (by omega), Int.toNat_natCast, zs_set]
theorem iAdd_f (m : List Nat) (own : Bool) (a b : Nat) (ha : a < m.length) (hb : b < m.length) (h16 : m.length ≤ 16) (h : ∀ i, nth m i < 2 ^ 16) : impl_Graph_join.f (zs m) own (a : Int) (b : Int) = some (zs (addN m a b)) := by
  rw [← sAdd_f m own a b ha hb h16 h]
  unfold spec_grAdd.f impl_Graph_join.f
  rfl
/-- Edges added, one behind the other. -/
def addEs (acc : List Nat) : List (List Int) → List Nat
  | [] => acc
  | e :: t => addEs (addN acc (rd e 0).toNat (rd e 1).toNat) t
theorem addEs_snoc (e : List Int) : ∀ (es : List (List Int)) (acc : List Nat), addEs acc (es ++ [e]) = addN (addEs acc es) (rd e 0).toNat (rd e 1).toNat
  | [], _ => rfl
  | x :: t, acc => addEs_snoc e t _
theorem addEs_length : ∀ (es : List (List Int)) (acc : List Nat), (addEs acc es).length = acc.length
  | [], _ => rfl
  | e :: t, acc => (addEs_length t _).trans (addN_length ..)
theorem addEs_lt : ∀ (es : List (List Int)) (acc : List Nat), acc.length ≤ 16 → (∀ e ∈ es, Edge acc.length e) → (∀ i, nth acc i < 2 ^ 16) → ∀ i, nth (addEs acc es) i < 2 ^ 16
  | [], _, _, _, h => h
  | e :: t, acc, h16, hE, h => by
    obtain ⟨a, b, rfl, ha, hb⟩ := hE _ (List.mem_cons_self ..)
    exact addEs_lt t (addN acc a b) (by rw [addN_length]; exact h16) (fun x hx => by rw [addN_length]; exact hE x (List.mem_cons_of_mem _ hx)) (addN_lt acc a b ha hb h16 h)
theorem edge_inj {a b i j : Nat} : ([(a : Int), (b : Int)] = [(i : Int), (j : Int)]) ↔ (i = a ∧ j = b) := by
  simp only [List.cons.injEq, and_true]
  constructor
  · rintro ⟨h1, h2⟩; exact ⟨by omega, by omega⟩
  · rintro ⟨rfl, rfl⟩; exact ⟨rfl, rfl⟩
theorem addEs_bit : ∀ (es : List (List Int)) (acc : List Nat), (∀ e ∈ es, Edge acc.length e) → ∀ i j, (nth (addEs acc es) i).testBit j = true ↔ (nth acc i).testBit j = true ∨ ∃ e ∈ es, e = [(i : Int), (j : Int)] ∨ e = [(j : Int), (i : Int)]
  | [], _, _ => fun i j => ⟨.inl, fun h => h.resolve_right (fun ⟨_, h, _⟩ => nomatch h)⟩
  | e :: t, acc, hE => by
    intro i j
    obtain ⟨a, b, rfl, ha, hb⟩ := hE _ (List.mem_cons_self ..)
    have ih := addEs_bit t (addN acc a b) (fun x hx => by rw [addN_length]; exact hE x (List.mem_cons_of_mem _ hx)) i j
    show (nth (addEs (addN acc a b) t) i).testBit j = true ↔ _
    rw [ih, addN_bit acc a b i j ha hb]
    constructor
    · rintro ((h | h | h) | ⟨x, hx, h⟩)
      · exact .inl h
      · exact .inr ⟨_, List.mem_cons_self .., .inl (edge_inj.2 h)⟩
      · exact .inr ⟨_, List.mem_cons_self .., .inr (edge_inj.2 ⟨h.2, h.1⟩)⟩
      · exact .inr ⟨x, List.mem_cons_of_mem _ hx, h⟩
    · rintro (h | ⟨x, hx, h⟩)
      · exact .inl (.inl h)
      · rcases List.mem_cons.1 hx with rfl | hx
        · rcases h with h | h
          · exact .inl (.inr (.inl (edge_inj.1 h)))
          · exact .inl (.inr (.inr ⟨(edge_inj.1 h).2, (edge_inj.1 h).1⟩))
        · exact .inr ⟨x, hx, h⟩
theorem zero_bit (n i j : Nat) : ¬ (nth (List.replicate n 0) i).testBit j = true := by
  have e : nth (List.replicate n 0) i = 0 := by
    unfold nth
    rw [List.getD_eq_getElem?_getD, List.getElem?_replicate]
    split <;> rfl
  rw [e]; simp
theorem zero_lt (n i : Nat) : nth (List.replicate n 0) i < 2 ^ 16 := by
  unfold nth
  rw [List.getD_eq_getElem?_getD, List.getElem?_replicate]
  split <;> decide
/-- Of edges between different buttons a graph comes. -/
theorem good_fold (n : Nat) (h1 : 1 ≤ n) (h16 : n ≤ 16) (es : List (List Int)) (hE : ∀ e ∈ es, ∃ a b : Nat, e = [(a : Int), (b : Int)] ∧ a < n ∧ b < n ∧ a ≠ b) : Gra.Good (addEs (List.replicate n 0) es) := by
  have hl : (addEs (List.replicate n 0) es).length = n := by rw [addEs_length, List.length_replicate]
  have hE' : ∀ e ∈ es, Edge (List.replicate n 0).length e := fun e he => by
    obtain ⟨a, b, h, ha, hb, _⟩ := hE e he
    exact ⟨a, b, h, by rw [List.length_replicate]; exact ha, by rw [List.length_replicate]; exact hb⟩
  have bit := addEs_bit es (List.replicate n 0) hE'
  have ed : ∀ i j, (nth (addEs (List.replicate n 0) es) i).testBit j = true → i < n ∧ j < n ∧ i ≠ j ∧ (nth (addEs (List.replicate n 0) es) j).testBit i = true := by
    intro i j h
    rcases (bit i j).1 h with h | ⟨e, he, h⟩
    · exact absurd h (zero_bit n i j)
    · obtain ⟨a, b, h', ha, hb, hab⟩ := hE e he
      refine ⟨?_, ?_, ?_, (bit j i).2 (.inr ⟨e, he, h.symm⟩)⟩ <;> rcases h with h | h <;> have q := edge_inj.1 (h'.symm.trans h) <;> omega
  refine ⟨by omega, by omega, fun i _ => ?_, fun i j _ _ h => ⟨(ed i j h).2.2.1, (ed i j h).2.2.2⟩⟩
  rw [hl]
  refine Nat.lt_pow_two_of_testBit _ fun j hj => ?_
  cases h : (nth (addEs (List.replicate n 0) es) i).testBit j with
  | false => rfl
  | true => have := (ed i j h).2.1; omega
theorem mem_eIn (m : List Nat) (k i j : Nat) : ∀ d, d ≤ m.length → ([(i : Int), (j : Int)] ∈ eIn m k d ↔ i = k ∧ m.length - d ≤ j ∧ j < m.length ∧ (nth m k).testBit j = true)
  | 0, _ => ⟨fun h => (nomatch h), fun h => by omega⟩
  | d + 1, hd => by
    have ih := mem_eIn m k i j d (by omega)
    unfold eIn
    by_cases hb : (nth m k).testBit (m.length - (d + 1)) = true
    · rw [if_pos hb, List.mem_cons, ih, edge_inj]
      constructor
      · rintro (⟨rfl, h⟩ | ⟨h1, h2, h3, h4⟩)
        · rw [h] at hb
          exact ⟨rfl, by omega, by omega, hb⟩
        · exact ⟨h1, by omega, h3, h4⟩
      · rintro ⟨h1, h2, h3, h4⟩
        by_cases hj : m.length - (d + 1) = j
        · exact .inl ⟨h1.symm, hj⟩
        · exact .inr ⟨h1, by omega, h3, h4⟩
    · rw [if_neg hb, ih]
      constructor
      · rintro ⟨h1, h2, h3, h4⟩; exact ⟨h1, by omega, h3, h4⟩
      · rintro ⟨h1, h2, h3, h4⟩
        refine ⟨h1, ?_, h3, h4⟩
        by_cases hj : m.length - (d + 1) = j
        · rw [hj] at hb; exact absurd h4 hb
        · omega
theorem mem_eOut (m : List Nat) (i j : Nat) : ∀ d, d ≤ m.length → ([(i : Int), (j : Int)] ∈ eOut m d ↔ m.length - d ≤ i ∧ i < j ∧ j < m.length ∧ (nth m i).testBit j = true)
  | 0, _ => ⟨fun h => (nomatch h), fun h => by omega⟩
  | d + 1, hd => by
    have ih := mem_eOut m i j d (by omega)
    unfold eOut
    rw [List.mem_append, ih, mem_eIn m _ i j d (by omega)]
    constructor
    · rintro (⟨rfl, h2, h3, h4⟩ | ⟨h1, h2, h3, h4⟩)
      · exact ⟨Nat.le_refl _, by omega, h3, h4⟩
      · exact ⟨by omega, h2, h3, h4⟩
    · rintro ⟨h1, h2, h3, h4⟩
      by_cases hi : i = m.length - (d + 1)
      · exact .inl ⟨hi, by omega, h3, hi ▸ h4⟩
      · exact .inr ⟨by omega, h2, h3, h4⟩
theorem eOut_apart (m : List Nat) : ∀ e ∈ eOut m m.length, ∃ a b : Nat, e = [(a : Int), (b : Int)] ∧ a < m.length ∧ b < m.length ∧ a ≠ b := by
  intro e he
  obtain ⟨a, b, rfl, ha, hb⟩ := eOut_edge m _ (Nat.le_refl _) e he
  have := (mem_eOut m a b _ (Nat.le_refl _)).1 he
  exact ⟨a, b, rfl, ha, hb, by omega⟩
theorem eOut_few (m : List Nat) : ∀ d, 2 * (eOut m d).length ≤ d * d
  | 0 => Nat.le_refl _
  | d + 1 => by
    have h1 := eOut_few m d
    have h2 := eIn_len m (m.length - (d + 1)) d
    unfold eOut
    rw [List.length_append, Nat.mul_add, Nat.add_mul, Nat.mul_add]; omega
/-- A graph's edges make it again. -/
theorem fold_eOut (m : List Nat) (hm : Gra.Good m) : addEs (List.replicate m.length 0) (eOut m m.length) = m := by
  have hE : ∀ e ∈ eOut m m.length, Edge (List.replicate m.length 0).length e := by
    rw [List.length_replicate]; exact eOut_edge m _ (Nat.le_refl _)
  have hl : (addEs (List.replicate m.length 0) (eOut m m.length)).length = m.length := by rw [addEs_length, List.length_replicate]
  have key : ∀ i, i < m.length → nth (addEs (List.replicate m.length 0) (eOut m m.length)) i = nth m i := by
    intro i hi
    refine Nat.eq_of_testBit_eq fun j => Bool.eq_iff_iff.2 ?_
    rw [addEs_bit _ _ hE]
    have back : (nth m i).testBit j = true → j < m.length := fun h => by
      by_cases hj : j < m.length
      · exact hj
      · have := Nat.testBit_lt_two_pow (Nat.lt_of_lt_of_le (hm.lt i hi) (Nat.pow_le_pow_right (by decide) (Nat.le_of_not_lt hj)))
        rw [this] at h; cases h
    constructor
    · rintro (h | ⟨e, he, rfl | rfl⟩)
      · exact absurd h (zero_bit _ _ _)
      · exact ((mem_eOut m i j _ (Nat.le_refl _)).1 he).2.2.2
      · have q := (mem_eOut m j i _ (Nat.le_refl _)).1 he
        exact (hm.sym j i (by omega) (by omega) q.2.2.2).2
    · intro h
      have hj := back h
      have hs := hm.sym i j hi hj h
      rcases Nat.lt_or_gt_of_ne hs.1 with hij | hij
      · exact .inr ⟨_, (mem_eOut m i j _ (Nat.le_refl _)).2 ⟨by omega, hij, hj, h⟩, .inl rfl⟩
      · exact .inr ⟨_, (mem_eOut m j i _ (Nat.le_refl _)).2 ⟨by omega, hij, hi, hs.2⟩, .inr rfl⟩
  refine List.ext_getElem hl fun i h1 h2 => ?_
  have := key i h2
  unfold nth at this
  rwa [List.getD_eq_getElem?_getD, List.getElem?_eq_getElem h1, List.getD_eq_getElem?_getD, List.getElem?_eq_getElem h2] at this

end Go.Proofs.YteabfdcobkgmmaaDoor.LemFnExactParseGraph
