/- Lemmas on the printed functions of FnExactGraphOf: what loops and calls come to, at natural numbers in range. -/
import Derived.Test.YteabfdcobkgmmaaPFnExactGraphOfx
import Derived.Test.YteabfdcobkgmmaaBit
import Derived.Test.YteabfdcobkgmmaaRow
namespace Go.Proofs.Yteabfdcobkgmmaa.LemFnExactGraphOf
open Go.RowKit Go.Proofs.Yteabfdcobkgmmaa.PFnExactGraphOf Go.Proofs.YteabfdcobkgmmaaW.PrintWords Go.Proofs.YteabfdcobkgmmaaW.PrintLast Go.Proofs.Yteabfdcobkgmmaa.Bit Go.Proofs.Yteabfdcobkgmmaa.Row Go.Proofs.Yteabfdcobkgmmaa.Lin

theorem eqIntS_l (l : List Int) (hl : l.length < 2 ^ 62) : ∀ n i k, i + n = l.length → n < k → laws_eqIntS.l0 k l l (i : Int) = some true := by
  intro n
  induction n with
  | zero =>
    intro i k hi hk
    obtain ⟨k, rfl⟩ : ∃ m, k = m + 1 := ⟨k - 1, by omega⟩
    rw [laws_eqIntS.l0, if_neg (by omega)]
  | succ n ih =>
    intro i k hi hk
    obtain ⟨k, rfl⟩ : ∃ m, k = m + 1 := ⟨k - 1, by omega⟩
    rw [laws_eqIntS.l0, if_pos (by omega), if_pos (by omega), if_pos (by omega), if_pos rfl, show ((i : Int) + 1) = ((i + 1 : Nat) : Int) from rfl, wrapn _ (by omega)]
    exact ih (i + 1) k (by omega) (by omega)
/-- A list is equal to itself. -/
theorem eqIntS_self (l : List Int) (hl : l.length < 2 ^ 62) (k : Nat) (hk : l.length < k) : laws_eqIntS.f k l l = some true := by
  unfold laws_eqIntS.f
  rw [if_pos rfl]
  exact eqIntS_l l hl l.length 0 k (by omega) hk
/-- 1, 2, .., n. -/
def marks (n : Nat) : List Int := (List.range n).map fun i => ((i + 1 : Nat) : Int)
theorem marks_length (n : Nat) : (marks n).length = n := by simp [marks]
theorem marks_succ (n : Nat) : marks (n + 1) = marks n ++ [((n + 1 : Nat) : Int)] := by simp [marks, List.range_succ]
theorem marks_rd (n i : Nat) (h : i < n) : rd (marks n) (i : Int) = ((i + 1 : Nat) : Int) := by
  unfold rd marks
  rw [Int.toNat_natCast, List.getD_eq_getElem?_getD, List.getElem?_map, List.getElem?_range h]; rfl
theorem mark_set (l : List Int) (i : Nat) (h : i < l.length) : (marks i ++ l.drop i).set i ((i + 1 : Nat) : Int) = marks (i + 1) ++ l.drop (i + 1) := by
  rw [List.set_append_right _ _ (by rw [marks_length]; omega), marks_length, Nat.sub_self, List.drop_eq_getElem_cons h, List.set_cons_zero, marks_succ, List.append_assoc]; rfl
theorem mark_l (l : List Int) (hl : l.length < 2 ^ 62) : ∀ n i k, i + n = l.length → n < k → laws_markIntS.l0 k (marks i ++ l.drop i) ((i + 1 : Nat) : Int) (i : Int) = some (((l.length + 1 : Nat) : Int), marks l.length) := by
  intro n
  induction n with
  | zero =>
    intro i k hi hk
    obtain ⟨k, rfl⟩ : ∃ m, k = m + 1 := ⟨k - 1, by omega⟩
    obtain rfl : i = l.length := by omega
    rw [laws_markIntS.l0, if_neg (by simp [marks_length]), List.drop_length, List.append_nil]
  | succ n ih =>
    intro i k hi hk
    obtain ⟨k, rfl⟩ : ∃ m, k = m + 1 := ⟨k - 1, by omega⟩
    rw [laws_markIntS.l0, if_pos (by simp [marks_length]; omega), if_pos (by omega), Int.toNat_natCast, mark_set l i (by omega), show ((i + 1 : Nat) : Int) + 1 = ((i + 1 + 1 : Nat) : Int) from rfl, show ((i : Int) + 1) = ((i + 1 : Nat) : Int) from rfl, wrapn _ (by omega), wrapn _ (by omega)]
    exact ih (i + 1) k (by omega) (by omega)
theorem mark_any (l : List Int) (hl : l.length < 2 ^ 62) (k : Nat) (hk : l.length < k) : laws_markIntS.f k l 1 = some (((l.length + 1 : Nat) : Int), marks l.length) := by
  have := mark_l l hl l.length 0 k (by omega) hk
  unfold laws_markIntS.f
  simpa [marks] using this
theorem held_l (m : Nat) (hm : m < 2 ^ 62) : ∀ n i k, i + n = m → n < k → laws_heldIntS.l0 k (marks m) ((i + 1 : Nat) : Int) (i : Int) = some ((m + 1 : Nat) : Int) := by
  intro n
  induction n with
  | zero =>
    intro i k hi hk
    obtain ⟨k, rfl⟩ : ∃ m, k = m + 1 := ⟨k - 1, by omega⟩
    obtain rfl : i = m := by omega
    rw [laws_heldIntS.l0, if_neg (by rw [marks_length]; omega)]
  | succ n ih =>
    intro i k hi hk
    obtain ⟨k, rfl⟩ : ∃ m, k = m + 1 := ⟨k - 1, by omega⟩
    rw [laws_heldIntS.l0, if_pos (by rw [marks_length]; omega), if_pos (by omega), if_pos (marks_rd m i (by omega)), show ((i + 1 : Nat) : Int) + 1 = ((i + 1 + 1 : Nat) : Int) from rfl, show ((i : Int) + 1) = ((i + 1 : Nat) : Int) from rfl, wrapn _ (by omega), wrapn _ (by omega)]
    exact ih (i + 1) k (by omega) (by omega)
theorem held_any (m : Nat) (hm : m < 2 ^ 62) (k : Nat) (hk : m < k) : laws_heldIntS.f k (marks m) 1 = some ((m + 1 : Nat) : Int) :=
  held_l m hm m 0 k (by omega) hk
theorem in_f (a b c : Int) : impl_in.f a b c = some (decide (b ≤ a ∧ a ≤ c)) := by
  unfold impl_in.f
  split
  · rename_i h; simp [h]
  · rename_i h; simp [h]
theorem l1In_f (a b c : Int) : spec_l1In.f a b c = some (decide (b ≤ a ∧ a ≤ c)) := by
  unfold spec_l1In.f
  split
  · rename_i h; simp [show b ≤ a from h]
  · rename_i h; simp [show ¬ b ≤ a from h]
theorem l1All_l (l : List Int) (a b : Int) (hl : l.length < 2 ^ 62) : ∀ n i k, i + n = l.length → n < k → spec_l1All.l0 k a b l (l.length : Int) (i : Int) = some (decide (∀ x ∈ l.drop i, a ≤ x ∧ x ≤ b)) := by
  intro n
  induction n with
  | zero =>
    intro i k hi hk
    obtain ⟨k, rfl⟩ : ∃ m, k = m + 1 := ⟨k - 1, by omega⟩
    rw [spec_l1All.l0, if_neg (by omega), show l.drop i = [] from List.drop_eq_nil_of_le (by omega)]
    simp
  | succ n ih =>
    intro i k hi hk
    obtain ⟨k, rfl⟩ : ∃ m, k = m + 1 := ⟨k - 1, by omega⟩
    have hlt : i < l.length := by omega
    have e : rd l (i : Int) = l[i] := by
      unfold rd
      rw [Int.toNat_natCast, List.getD_eq_getElem?_getD, List.getElem?_eq_getElem hlt]; rfl
    rw [spec_l1All.l0, if_pos (by omega), if_pos (by omega), if_pos (by omega), l1In_f, e]
    simp only [bs]
    rw [List.drop_eq_getElem_cons hlt]
    by_cases h : a ≤ l[i] ∧ l[i] ≤ b
    · rw [decide_eq_true h, if_pos rfl, show ((i : Int) + 1) = ((i + 1 : Nat) : Int) from rfl, wrapn _ (by omega), ih (i + 1) k (by omega) (by omega)]
      congr 1
      rw [decide_eq_decide, List.forall_mem_cons]
      exact ⟨fun hh => ⟨h, hh⟩, fun hh => hh.2⟩
    · rw [decide_eq_false h, if_neg (by decide)]
      congr 1
      symm
      rw [decide_eq_false_iff_not]
      exact fun hh => h (hh _ (List.mem_cons_self ..))
theorem l1All_f (l : List Int) (a b : Int) (hl : l.length < 2 ^ 62) (k : Nat) (hk : l.length < k) : spec_l1All.f k l a b = some (decide (∀ x ∈ l, a ≤ x ∧ x ≤ b)) := by
  unfold spec_l1All.f
  exact l1All_l l a b hl l.length 0 k (by omega) hk
theorem toInt_l (l : List Int) (hl : l.length < 2 ^ 40) : ∀ n i k, i + n = l.length → n < k → laws_toIntS.l0 k l (l.take i ++ List.replicate n 0) (i : Int) = some l := by
  intro n
  induction n with
  | zero =>
    intro i k hi hk
    obtain ⟨k, rfl⟩ : ∃ m, k = m + 1 := ⟨k - 1, by omega⟩
    rw [laws_toIntS.l0, if_neg (by omega), List.replicate_zero, List.append_nil, show i = l.length by omega, List.take_length]
  | succ n ih =>
    intro i k hi hk
    obtain ⟨k, rfl⟩ : ∃ m, k = m + 1 := ⟨k - 1, by omega⟩
    have hlt : i < l.length := by omega
    have e : rd l (i : Int) = l[i] := by
      unfold rd
      rw [Int.toNat_natCast, List.getD_eq_getElem?_getD, List.getElem?_eq_getElem hlt]; rfl
    have ht : (l.take i).length = i := by rw [List.length_take]; omega
    rw [laws_toIntS.l0, if_pos (by omega), if_pos (by omega), if_pos (by rw [List.length_append, ht, List.length_replicate]; omega), e, Int.toNat_natCast, List.set_append_right _ _ (by omega), ht, Nat.sub_self, List.replicate_succ, List.set_cons_zero, show ((i : Int) + 1) = ((i + 1 : Nat) : Int) from rfl, wrapn _ (by omega)]
    have := ih (i + 1) k (by omega) (by omega)
    rw [List.take_succ_eq_append_getElem hlt, List.append_assoc] at this
    exact this
/-- The copy that a law makes of a list. -/
theorem toInt_f (l : List Int) (hl : l.length < 2 ^ 40) (k : Nat) (hk : l.length < k) : laws_toIntS.f k l = some l := by
  unfold laws_toIntS.f
  rw [if_pos (Int.natCast_nonneg _), Int.toNat_natCast, if_pos (by omega)]
  exact toInt_l l hl l.length 0 k (by omega) hk
theorem eqGraph_self (l : List Int) (own : Bool) (hl : l.length < 2 ^ 62) (k : Nat) (hk : l.length < k) : laws_eqGraph.f k l own l own = some true := by
  unfold laws_eqGraph.f
  rw [eqIntS_self l hl k hk]
  simp only [bs, if_true, bne_self_eq_false, Bool.false_eq_true, if_false]
theorem szInt_f (l : List Int) (left : Int) (hl : l.length ≤ maxLen) (h0 : 0 ≤ left) (h2 : left ≤ 1048576) : laws_szIntS.f l left = some (if left < (l.length : Int) then -1 else left - (l.length : Int)) := by
  have e : wrap64 (left - (l.length : Int)) = left - (l.length : Int) := by unfold maxLen at hl; unfold wrap64; omega
  unfold laws_szIntS.f
  rw [e]
  by_cases h : left < (l.length : Int)
  · rw [if_pos (by omega), if_pos h]
  · rw [if_neg (by omega), if_neg h]
theorem markGraph_any (l : List Int) (own : Bool) (hl : l.length < 2 ^ 62) (k : Nat) (hk : l.length < k) : laws_markGraph.f k l own 1 = some (((l.length + 1 : Nat) : Int), marks l.length) := by
  unfold laws_markGraph.f
  rw [mark_any l hl k hk]
  simp only [bs]
theorem heldGraph_any (m : Nat) (own : Bool) (hm : m < 2 ^ 62) (k : Nat) (hk : m < k) : laws_heldGraph.f k (marks m) own 1 = some ((m + 1 : Nat) : Int) := by
  unfold laws_heldGraph.f
  rw [held_any m hm k hk]
  simp only [bs]
  rw [if_neg (by omega)]
/-- s, s + 1, .., n of them. -/
def seqs (s n : Nat) : List Int := (List.range n).map fun i => ((s + i : Nat) : Int)
theorem seqs_length (s n : Nat) : (seqs s n).length = n := by simp [seqs]
theorem seqs_succ (s n : Nat) : seqs s (n + 1) = seqs s n ++ [((s + n : Nat) : Int)] := by simp [seqs, List.range_succ]
theorem seqs_rd (s n i : Nat) (h : i < n) : rd (seqs s n) (i : Int) = ((s + i : Nat) : Int) := by
  unfold rd seqs
  rw [Int.toNat_natCast, List.getD_eq_getElem?_getD, List.getElem?_map, List.getElem?_range h]; rfl
theorem seqs_set (s : Nat) (l : List Int) (i : Nat) (h : i < l.length) : (seqs s i ++ l.drop i).set i ((s + i : Nat) : Int) = seqs s (i + 1) ++ l.drop (i + 1) := by
  rw [List.set_append_right _ _ (by rw [seqs_length]; omega), seqs_length, Nat.sub_self, List.drop_eq_getElem_cons h, List.set_cons_zero, seqs_succ, List.append_assoc]; rfl
theorem markN_l (s : Nat) (l : List Int) (hl : l.length < 2 ^ 61) (hs : s < 2 ^ 61) : ∀ n i k, i + n = l.length → n < k → laws_markIntS.l0 k (seqs s i ++ l.drop i) ((s + i : Nat) : Int) (i : Int) = some (((s + l.length : Nat) : Int), seqs s l.length) := by
  intro n
  induction n with
  | zero =>
    intro i k hi hk
    obtain ⟨k, rfl⟩ : ∃ m, k = m + 1 := ⟨k - 1, by omega⟩
    obtain rfl : i = l.length := by omega
    rw [laws_markIntS.l0, if_neg (by simp [seqs_length]), List.drop_length, List.append_nil]
  | succ n ih =>
    intro i k hi hk
    obtain ⟨k, rfl⟩ : ∃ m, k = m + 1 := ⟨k - 1, by omega⟩
    rw [laws_markIntS.l0, if_pos (by simp [seqs_length]; omega), if_pos (by omega), Int.toNat_natCast, seqs_set s l i (by omega), show ((s + i : Nat) : Int) + 1 = ((s + (i + 1) : Nat) : Int) from rfl, show ((i : Int) + 1) = ((i + 1 : Nat) : Int) from rfl, wrapn _ (by omega), wrapn _ (by omega)]
    exact ih (i + 1) k (by omega) (by omega)
theorem markN_f (s : Nat) (l : List Int) (hl : l.length < 2 ^ 61) (hs : s < 2 ^ 61) (k : Nat) (hk : l.length < k) : laws_markIntS.f k l (s : Int) = some (((s + l.length : Nat) : Int), seqs s l.length) := by
  have := markN_l s l hl hs l.length 0 k (by omega) hk
  unfold laws_markIntS.f
  simpa [seqs] using this
theorem heldN_l (s m : Nat) (hm : m < 2 ^ 61) (hs : s < 2 ^ 61) : ∀ n i k, i + n = m → n < k → laws_heldIntS.l0 k (seqs s m) ((s + i : Nat) : Int) (i : Int) = some ((s + m : Nat) : Int) := by
  intro n
  induction n with
  | zero =>
    intro i k hi hk
    obtain ⟨k, rfl⟩ : ∃ m, k = m + 1 := ⟨k - 1, by omega⟩
    obtain rfl : i = m := by omega
    rw [laws_heldIntS.l0, if_neg (by rw [seqs_length]; omega)]
  | succ n ih =>
    intro i k hi hk
    obtain ⟨k, rfl⟩ : ∃ m, k = m + 1 := ⟨k - 1, by omega⟩
    rw [laws_heldIntS.l0, if_pos (by rw [seqs_length]; omega), if_pos (by omega), if_pos (seqs_rd s m i (by omega)), show ((s + i : Nat) : Int) + 1 = ((s + (i + 1) : Nat) : Int) from rfl, show ((i : Int) + 1) = ((i + 1 : Nat) : Int) from rfl, wrapn _ (by omega), wrapn _ (by omega)]
    exact ih (i + 1) k (by omega) (by omega)
theorem heldN_f (s m : Nat) (hm : m < 2 ^ 61) (hs : s < 2 ^ 61) (k : Nat) (hk : m < k) : laws_heldIntS.f k (seqs s m) (s : Int) = some ((s + m : Nat) : Int) := by
  unfold laws_heldIntS.f
  exact heldN_l s m hm hs m 0 k (by omega) hk
theorem markNG_f (s : Nat) (l : List Int) (o : Bool) (hl : l.length < 2 ^ 61) (hs : s < 2 ^ 61) (k : Nat) (hk : l.length < k) : laws_markGraph.f k l o (s : Int) = some (((s + l.length : Nat) : Int), seqs s l.length) := by
  unfold laws_markGraph.f
  rw [markN_f s l hl hs k hk]
  simp only [bs]
theorem heldNG_f (s m : Nat) (o : Bool) (hm : m < 2 ^ 61) (hs : s < 2 ^ 61) (k : Nat) (hk : m < k) : laws_heldGraph.f k (seqs s m) o (s : Int) = some ((s + m : Nat) : Int) := by
  unfold laws_heldGraph.f
  rw [heldN_f s m hm hs k hk]
  simp only [bs]
  rw [if_neg (by omega)]
theorem markE_f (s : Nat) (l : List Int) (o : Bool) (hl : l.length < 2 ^ 61) (hs : s < 2 ^ 61) (k : Nat) (hk : l.length < k) : laws_markGraph.f k l o (s : Int) = some (((s + l.length : Nat) : Int), seqs s l.length) := by
  unfold laws_markGraph.f
  rw [markN_f s l hl hs k hk]
  simp only [bs]
/-- Rows, written one behind the other. -/
def mkss (s : Nat) : List (List Int) → List (List Int)
  | [] => []
  | x :: t => seqs s x.length :: mkss (s + x.length) t
def tot : List (List Int) → Nat
  | [] => 0
  | x :: t => x.length + tot t
theorem mkss_cons (s : Nat) (x : List Int) (t : List (List Int)) : mkss s (x :: t) = seqs s x.length :: mkss (s + x.length) t := rfl
theorem tot_cons (x : List Int) (t : List (List Int)) : tot (x :: t) = x.length + tot t := rfl
theorem mkss_length (s : Nat) : ∀ l, (mkss s l).length = l.length := by
  intro l
  induction l generalizing s with
  | nil => rfl
  | cons x t ih => rw [mkss_cons, List.length_cons, List.length_cons, ih]
theorem rdL_mid (pre : List (List Int)) (x : List Int) (t : List (List Int)) : rd_L1 (pre ++ x :: t) (pre.length : Int) = x := by
  unfold rd_L1
  rw [Int.toNat_natCast, List.getD_eq_getElem?_getD, List.getElem?_append_right (Nat.le_refl _), Nat.sub_self]; rfl
theorem markSS_l (K : Nat) : ∀ (t pre : List (List Int)) (s k : Nat), (∀ x ∈ t, x.length < K) → K + t.length < k → K < 2 ^ 61 → pre.length + t.length < 2 ^ 60 → s + tot t < 2 ^ 61 →
    laws_markIntSS.l0 k (pre ++ t) (s : Int) (pre.length : Int) = some (((s + tot t : Nat) : Int), pre ++ mkss s t) := by
  intro t
  induction t with
  | nil =>
    intro pre s k _ hk _ _ _
    obtain ⟨k, rfl⟩ : ∃ m, k = m + 1 := ⟨k - 1, by omega⟩
    rw [laws_markIntSS.l0, if_neg (by rw [List.append_nil]; omega)]; rfl
  | cons x t ih =>
    intro pre s k hx hk hK hp hs
    obtain ⟨k, rfl⟩ : ∃ m, k = m + 1 := ⟨k - 1, by omega⟩
    have h1 := hx x (List.mem_cons_self ..)
    rw [List.length_cons] at hk hp
    rw [tot_cons] at hs
    rw [laws_markIntSS.l0, if_pos (by rw [List.length_append, List.length_cons]; omega), if_pos (by omega), rdL_mid, markN_f s x (by omega) (by omega) k (by omega)]
    simp only [bs]
    have e : (pre ++ x :: t).set (pre.length : Int).toNat (seqs s x.length) = (pre ++ [seqs s x.length]) ++ t := by
      rw [Int.toNat_natCast, List.set_append_right _ _ (Nat.le_refl _), Nat.sub_self, List.set_cons_zero, List.append_assoc]; rfl
    have e2 : ((pre.length : Int) + 1) = ((pre ++ [seqs s x.length]).length : Int) := by rw [List.length_append, List.length_singleton]; rfl
    rw [e, e2, wrapn _ (by rw [List.length_append, List.length_singleton]; omega), ih _ _ _ (fun y hy => hx y (List.mem_cons_of_mem _ hy)) (by omega) hK (by rw [List.length_append, List.length_singleton]; omega) (by omega)]
    rw [List.append_assoc, tot_cons, mkss_cons, Nat.add_assoc]; rfl
theorem eqSS_l (K : Nat) (l : List (List Int)) (hl : ∀ x ∈ l, x.length < K) (hK : K < 2 ^ 61) (hn : l.length < 2 ^ 60) : ∀ n i k, i + n = l.length → K + n < k → laws_eqIntSS.l0 k l l (i : Int) = some true := by
  intro n
  induction n with
  | zero =>
    intro i k hi hk
    obtain ⟨k, rfl⟩ : ∃ m, k = m + 1 := ⟨k - 1, by omega⟩
    rw [laws_eqIntSS.l0, if_neg (by omega)]
  | succ n ih =>
    intro i k hi hk
    obtain ⟨k, rfl⟩ : ∃ m, k = m + 1 := ⟨k - 1, by omega⟩
    have hlt : i < l.length := by omega
    have h1 := hl _ (List.getElem_mem hlt)
    have e : rd_L1 l (i : Int) = l[i] := by
      unfold rd_L1
      rw [Int.toNat_natCast, List.getD_eq_getElem?_getD, List.getElem?_eq_getElem hlt]; rfl
    rw [laws_eqIntSS.l0, if_pos (by omega), if_pos (by omega), if_pos (by omega), e, eqIntS_self _ (by omega) k (by omega)]
    simp only [bs, if_true]
    rw [show ((i : Int) + 1) = ((i + 1 : Nat) : Int) from rfl, wrapn _ (by omega)]
    exact ih (i + 1) k (by omega) (by omega)
theorem markSS_f (K : Nat) (l : List (List Int)) (hl : ∀ x ∈ l, x.length < K) (hK : K < 2 ^ 61) (hn : l.length < 2 ^ 60) (ht : tot l < 2 ^ 60) (k : Nat) (hk : K + l.length < k) : laws_markIntSS.f k l 1 = some (((1 + tot l : Nat) : Int), mkss 1 l) := by
  unfold laws_markIntSS.f
  exact markSS_l K l [] 1 k hl hk hK (by rw [List.length_nil]; omega) (by omega)
theorem eqSS_f (K : Nat) (l : List (List Int)) (hl : ∀ x ∈ l, x.length < K) (hK : K < 2 ^ 61) (hn : l.length < 2 ^ 60) (k : Nat) (hk : K + l.length < k) : laws_eqIntSS.f k l l = some true := by
  unfold laws_eqIntSS.f
  rw [if_pos rfl]
  exact eqSS_l K l hl hK hn l.length 0 k (by omega) (by omega)
theorem add_both (acc : List Int) (own : Bool) (x y : Int) (hx : 0 ≤ x) (hx2 : x < (acc.length : Int)) (hy : 0 ≤ y) (hy2 : y < (acc.length : Int)) : ∃ R, spec_grAdd.f acc own x y = some R ∧ impl_Graph_join.f acc own x y = some R ∧ R.length = acc.length := by
  unfold spec_grAdd.f impl_Graph_join.f
  rw [if_pos hx, if_pos hx2, if_pos hy]
  simp only [bs]
  rw [if_pos hy2]
  exact ⟨_, rfl, rfl, by rw [List.length_set, List.length_set]⟩
theorem two_of_length {e : List Int} (h : (e.length : Int) = 2) : ∃ a b, e = [a, b] := by
  match e, h with
  | [a, b], _ => exact ⟨a, b, rfl⟩
  | [], h => simp at h
  | [_], h => simp at h
  | _ :: _ :: _ :: _, h => simp at h; omega
theorem gof_l (l : List (List Int)) (hl : l.length ≤ 200) (n : Nat) (hn : 1 ≤ n) (hn2 : n ≤ 16) (own : Bool) :
    ∀ d i k (acc : List Int), i + d = l.length → d + 10 < k → acc.length = n → ∃ (R : List Int) (ro rb : Bool), spec_GraphOf.l0 k (n : Int) l (l.length : Int) (i : Int) acc own = some (R, ro, rb) ∧ impl_GraphOf.l0 k (n : Int) l (l.length : Int) (i : Int) acc own = some (R, ro, rb) ∧ R.length ≤ 16 := by
  intro d
  induction d with
  | zero =>
    intro i k acc hi hk ha
    obtain ⟨k, rfl⟩ : ∃ m, k = m + 1 := ⟨k - 1, by omega⟩
    rw [spec_GraphOf.l0, impl_GraphOf.l0, if_neg (by omega), if_neg (by omega)]
    exact ⟨_, _, _, rfl, rfl, by omega⟩
  | succ d ih =>
    intro i k acc hi hk ha
    obtain ⟨k, rfl⟩ : ∃ m, k = m + 1 := ⟨k - 1, by omega⟩
    have en : wrap64 ((n : Int) - 1) = (n : Int) - 1 := by unfold wrap64; omega
    have g1 : (i : Int) < (l.length : Int) := by omega
    have g2 : (0 : Int) ≤ (i : Int) := by omega
    rw [spec_GraphOf.l0, impl_GraphOf.l0]
    simp only [if_pos g1, if_pos g2, en]
    generalize rd_L1 l (i : Int) = e
    by_cases h2 : (e.length : Int) = 2
    · obtain ⟨a, b, rfl⟩ := two_of_length h2
      have e0 : rd [a, b] 0 = a := rfl
      have e1 : rd [a, b] 1 = b := rfl
      have g3 : (0 : Int) < ([a, b].length : Int) := by rw [h2]; decide
      have g4 : (1 : Int) < ([a, b].length : Int) := by rw [h2]; decide
      simp only [if_pos h2, if_pos g3, if_pos g4, e0, e1]
      rw [l1All_f [a, b] 0 _ (by simp) k (by show 2 < k; omega), in_f, in_f]
      simp only [bs]
      by_cases ha' : 0 ≤ a ∧ a ≤ (n : Int) - 1
      · rw [decide_eq_true ha']
        simp only [if_true]
        by_cases hb' : 0 ≤ b ∧ b ≤ (n : Int) - 1
        · rw [decide_eq_true hb', decide_eq_true (show ∀ x ∈ [a, b], 0 ≤ x ∧ x ≤ (n : Int) - 1 from fun x hx => by
            rcases List.mem_cons.1 hx with rfl | hx
            · exact ha'
            · rw [List.mem_singleton.1 hx]; exact hb')]
          simp only [if_true]
          by_cases hab : a = b
          · rw [if_pos hab, if_pos hab]; exact ⟨_, _, _, rfl, rfl, by decide⟩
          · obtain ⟨R, r1, r2, r3⟩ := add_both acc own a b ha'.1 (by omega) hb'.1 (by omega)
            obtain ⟨R', ro, rb, q1, q2, q3⟩ := ih (i + 1) k R (by omega) (by omega) (by omega)
            rw [if_neg hab, if_neg hab, r1, r2]
            simp only [bs]
            rw [show ((i : Int) + 1) = ((i + 1 : Nat) : Int) from rfl, wrapn _ (by omega)]
            exact ⟨R', ro, rb, q1, q2, q3⟩
        · rw [decide_eq_false hb', decide_eq_false (show ¬ ∀ x ∈ [a, b], 0 ≤ x ∧ x ≤ (n : Int) - 1 from fun h => hb' (h b (by simp)))]
          exact ⟨_, _, _, rfl, rfl, by decide⟩
      · rw [decide_eq_false ha', decide_eq_false (show ¬ ∀ x ∈ [a, b], 0 ≤ x ∧ x ≤ (n : Int) - 1 from fun h => ha' (h a (by simp)))]
        exact ⟨_, _, _, rfl, rfl, by decide⟩
    · rw [if_neg h2, if_neg h2]; exact ⟨_, _, _, rfl, rfl, by decide⟩
theorem gof_both (n : Int) (l : List (List Int)) (own : Bool) (k : Nat) (hk : 300 ≤ k) : ∃ (R : List Int) (ro rb : Bool), spec_GraphOf.f k n l own = some (R, ro, rb) ∧ impl_GraphOf.f k n l own = some (R, ro, rb) ∧ R.length ≤ 16 := by
  obtain ⟨k, rfl⟩ : ∃ m, k = m + 1 := ⟨k - 1, by omega⟩
  have no : ∃ (R : List Int) (ro rb : Bool), spec_GraphOf.j0 (k + 1) n l own true = some (R, ro, rb) ∧ impl_GraphOf.j0 (k + 1) n l own true = some (R, ro, rb) ∧ R.length ≤ 16 := by
    rw [spec_GraphOf.j0, impl_GraphOf.j0, if_pos rfl, if_pos rfl]; exact ⟨_, _, _, rfl, rfl, by decide⟩
  unfold spec_GraphOf.f impl_GraphOf.f spec_grSize.f impl_isCount.f
  rw [l1In_f, in_f]
  simp only [bs]
  by_cases h : 1 ≤ n ∧ n ≤ 16
  · rw [decide_eq_true h, if_pos rfl, if_pos rfl]
    by_cases h2 : l.length ≤ 200
    · obtain ⟨n, rfl⟩ := Int.eq_ofNat_of_zero_le (show 0 ≤ n by omega)
      rw [decide_eq_false (show ¬ ((l.length : Int) > 200) by omega), spec_GraphOf.j0, impl_GraphOf.j0]
      have g1 : (0 : Int) ≤ (n : Int) := by omega
      have g2 : n ≤ 35184372088832 := by omega
      simp only [Bool.false_eq_true, if_false, Int.toNat_natCast, if_pos g1, if_pos g2]
      exact gof_l l h2 n (by omega) (by omega) own l.length 0 k _ (by omega) (by omega) (List.length_replicate ..)
    · rw [decide_eq_true (show (l.length : Int) > 200 by omega)]; exact no
  · rw [decide_eq_false h, if_neg (by decide), if_neg (by decide)]; exact no
theorem szSS_l : ∀ (t pre : List (List Int)) (s : Int) (k : Nat), 0 ≤ s → s ≤ 1048576 → (∀ x ∈ t, x.length ≤ maxLen) → t.length < k → pre.length + t.length ≤ 1048576 →
    ∃ r, laws_szIntSS.l0 k (pre ++ t) s (pre.length : Int) = some r ∧ (¬ r < 0 → (tot t : Int) ≤ s) := by
  intro t
  induction t with
  | nil =>
    intro pre s k h0 _ _ hk _
    obtain ⟨k, rfl⟩ : ∃ m, k = m + 1 := ⟨k - 1, by omega⟩
    rw [laws_szIntSS.l0, if_neg (by rw [List.append_nil]; omega)]
    exact ⟨_, rfl, fun _ => h0⟩
  | cons x t ih =>
    intro pre s k h0 h1 hx hk hp
    obtain ⟨k, rfl⟩ : ∃ m, k = m + 1 := ⟨k - 1, by omega⟩
    rw [List.length_cons] at hk hp
    rw [laws_szIntSS.l0, if_pos (by rw [List.length_append, List.length_cons]; omega), if_pos (by omega), rdL_mid, szInt_f x s (hx x (List.mem_cons_self ..)) h0 h1]
    simp only [bs]
    by_cases hs : s < (x.length : Int)
    · rw [if_pos hs, if_pos (by decide)]
      exact ⟨_, rfl, fun h => absurd (show (-1 : Int) < 0 by decide) h⟩
    · rw [if_neg hs, if_neg (by omega)]
      have e : pre ++ x :: t = (pre ++ [x]) ++ t := by rw [List.append_assoc]; rfl
      have e2 : ((pre.length : Int) + 1) = ((pre ++ [x]).length : Int) := by rw [List.length_append, List.length_singleton]; rfl
      obtain ⟨r, hr, hq⟩ := ih (pre ++ [x]) (s - (x.length : Int)) k (by omega) (by omega) (fun y hy => hx y (List.mem_cons_of_mem _ hy)) (by omega) (by rw [List.length_append, List.length_singleton]; omega)
      rw [e, e2, wrapn _ (by rw [List.length_append, List.length_singleton]; omega)]
      refine ⟨r, hr, fun h => ?_⟩
      have := hq h
      rw [tot_cons]; omega
theorem szSS_f (l : List (List Int)) (hl : l.length ≤ maxLen) (hx : ∀ x ∈ l, x.length ≤ maxLen) (k : Nat) (hk : 1048577 ≤ k) : ∃ r, laws_szIntSS.f k l 1048576 = some r ∧ (¬ r < 0 → l.length ≤ 1048576 ∧ tot l ≤ 1048576) := by
  have e : wrap64 (1048576 - (l.length : Int)) = 1048576 - (l.length : Int) := by unfold maxLen at hl; unfold wrap64; omega
  unfold laws_szIntSS.f
  rw [e]
  by_cases h : (1048576 : Int) - (l.length : Int) < 0
  · rw [if_pos h]; exact ⟨_, rfl, fun h => absurd (show (-1 : Int) < 0 by decide) h⟩
  · rw [if_neg h]
    obtain ⟨r, hr, hq⟩ := szSS_l l [] (1048576 - (l.length : Int)) k (by omega) (by omega) hx (by omega) (by rw [List.length_nil]; omega)
    exact ⟨r, hr, fun h2 => ⟨by omega, by have := hq h2; omega⟩⟩
theorem le_tot : ∀ (l : List (List Int)) (x : List Int), x ∈ l → x.length ≤ tot l
  | y :: t, x, h => by
    rw [tot_cons]
    rcases List.mem_cons.1 h with rfl | h
    · omega
    · have := le_tot t x h; omega
theorem toSS_l (K : Nat) (l : List (List Int)) (hx : ∀ x ∈ l, x.length < K) (hK : K < 2 ^ 40) (hl : l.length < 2 ^ 40) : ∀ n i k, i + n = l.length → K + n < k → laws_toIntSS.l0 k l (l.take i ++ List.replicate n []) (i : Int) = some l := by
  intro n
  induction n with
  | zero =>
    intro i k hi hk
    obtain ⟨k, rfl⟩ : ∃ m, k = m + 1 := ⟨k - 1, by omega⟩
    rw [laws_toIntSS.l0, if_neg (by omega), List.replicate_zero, List.append_nil, show i = l.length by omega, List.take_length]
  | succ n ih =>
    intro i k hi hk
    obtain ⟨k, rfl⟩ : ∃ m, k = m + 1 := ⟨k - 1, by omega⟩
    have hlt : i < l.length := by omega
    have h1 := hx _ (List.getElem_mem hlt)
    have e : rd_L1 l (i : Int) = l[i] := by
      unfold rd_L1
      rw [Int.toNat_natCast, List.getD_eq_getElem?_getD, List.getElem?_eq_getElem hlt]; rfl
    have ht : (l.take i).length = i := by rw [List.length_take]; omega
    rw [laws_toIntSS.l0, if_pos (by omega), if_pos (by omega), e, toInt_f l[i] (by omega) k (by omega)]
    simp only [bs]
    rw [if_pos (by rw [List.length_append, ht, List.length_replicate]; omega), Int.toNat_natCast, List.set_append_right _ _ (by omega), ht, Nat.sub_self, List.replicate_succ, List.set_cons_zero, show ((i : Int) + 1) = ((i + 1 : Nat) : Int) from rfl, wrapn _ (by omega)]
    have := ih (i + 1) k (by omega) (by omega)
    rw [List.take_succ_eq_append_getElem hlt, List.append_assoc] at this
    exact this
theorem toSS_f (K : Nat) (l : List (List Int)) (hx : ∀ x ∈ l, x.length < K) (hK : K < 2 ^ 40) (hl : l.length < 2 ^ 40) (k : Nat) (hk : K + l.length < k) : laws_toIntSS.f k l = some l := by
  unfold laws_toIntSS.f
  rw [if_pos (Int.natCast_nonneg _), Int.toNat_natCast, if_pos (by omega)]
  exact toSS_l K l hx hK hl l.length 0 k (by omega) (by omega)

end Go.Proofs.Yteabfdcobkgmmaa.LemFnExactGraphOf
