/- Lemmas on the printed functions of FnExactGraphText: what loops and calls come to, at natural numbers in range. -/
import Derived.Test.YteabfdcobkgmmaaDoorPFnExactGraphTextx
import Derived.Test.YteabfdcobkgmmaaDoorBit
import Derived.Test.YteabfdcobkgmmaaDoorGra
import Derived.Lib.ItoaNum
import Derived.Lib.Join
import Derived.Test.YteabfdcobkgmmaaDoorRow
namespace Go.Proofs.YteabfdcobkgmmaaDoor.LemFnExactGraphText
open Go.RowKit Go.Proofs.YteabfdcobkgmmaaDoor.PFnExactGraphText Go.Proofs.YteabfdcobkgmmaaDoorW.PrintWords Go.Proofs.YteabfdcobkgmmaaDoorW.PrintLast Go.Proofs.YteabfdcobkgmmaaDoor.Bit Go.Proofs.YteabfdcobkgmmaaDoor.Row Go.Proofs.YteabfdcobkgmmaaDoor.Lin Go.Proofs.YteabfdcobkgmmaaDoor.Gra

theorem eqIntS_l (l : List Int) (hl : l.length < 2 ^ 62) : ∀ n i k, i + n = l.length → n < k → laws_eqIntS.l0 k l l (i : Int) = some true := by
  intro n
  induction n with
  | zero =>
    intro i k hi hk
    obtain ⟨k, rfl⟩ : ∃ m, k = m + 1 := ⟨k - 1, by omega⟩
    rw [laws_eqIntS.l0, if_neg (by omega)]
  | succ n ih =>
    intro i k hi hk
    obtain ⟨k, rfl⟩ : ∃ m, k = m + 1 := ⟨k - 1, by omega⟩
    rw [laws_eqIntS.l0, if_pos (by omega), if_pos (by omega), if_pos (by omega), if_pos rfl, show ((i : Int) + 1) = ((i + 1 : Nat) : Int) from rfl, wrapn _ (by omega)]
    exact ih (i + 1) k (by omega) (by omega)
/-- A list is equal to itself. -/
theorem eqIntS_self (l : List Int) (hl : l.length < 2 ^ 62) (k : Nat) (hk : l.length < k) : laws_eqIntS.f k l l = some true := by
  unfold laws_eqIntS.f
  rw [if_pos rfl]
  exact eqIntS_l l hl l.length 0 k (by omega) hk
theorem whole_f (c : Nat) (h : c < 63) : impl_whole.f (c : Int) = some ((2 ^ c - 1 : Nat) : Int) := by
  unfold impl_whole.f
  rw [if_pos (Int.natCast_nonneg _), wholen c h]
theorem in_f (a b c : Int) : impl_in.f a b c = some (decide (b ≤ a ∧ a ≤ c)) := by
  unfold impl_in.f
  split
  · rename_i h; simp [h]
  · rename_i h; simp [h]
theorem l1In_f (a b c : Int) : spec_l1In.f a b c = some (decide (b ≤ a ∧ a ≤ c)) := by
  unfold spec_l1In.f
  split
  · rename_i h; simp [show b ≤ a from h]
  · rename_i h; simp [show ¬ b ≤ a from h]
theorem has_f (x i : Nat) (hx : x < 2 ^ 63) : impl_has.f (x : Int) (i : Int) = some (x.testBit i) := by
  unfold impl_has.f
  rw [if_pos (Int.natCast_nonneg _), shrn x i hx, show (1 : Int) = ((1 : Nat) : Int) from rfl, andn _ _ (Nat.lt_of_le_of_lt (Nat.div_le_self _ _) hx) (by decide), Nat.and_one_is_mod, Nat.testBit_eq_decide_div_mod_eq]
  congr 1
  rcases Nat.mod_two_eq_zero_or_one (x / 2 ^ i) with h | h <;> rw [h] <;> rfl
theorem grIn_f (x i : Nat) (hx : x < 2 ^ 63) : spec_grIn.f (x : Int) (i : Int) = some (x.testBit i) := by
  unfold spec_grIn.f
  rw [if_pos (Int.natCast_nonneg _), shrn x i hx, Nat.testBit_eq_decide_div_mod_eq]
  congr 1
  have e : Int.tmod ((x / 2 ^ i : Nat) : Int) 2 = ((x / 2 ^ i % 2 : Nat) : Int) := rfl
  rw [e]
  rcases Nat.mod_two_eq_zero_or_one (x / 2 ^ i) with h | h <;> rw [h] <;> rfl
theorem l1All_l (l : List Int) (a b : Int) (hl : l.length < 2 ^ 62) : ∀ n i k, i + n = l.length → n < k → spec_l1All.l0 k a b l (l.length : Int) (i : Int) = some (decide (∀ x ∈ l.drop i, a ≤ x ∧ x ≤ b)) := by
  intro n
  induction n with
  | zero =>
    intro i k hi hk
    obtain ⟨k, rfl⟩ : ∃ m, k = m + 1 := ⟨k - 1, by omega⟩
    rw [spec_l1All.l0, if_neg (by omega), show l.drop i = [] from List.drop_eq_nil_of_le (by omega)]
    simp
  | succ n ih =>
    intro i k hi hk
    obtain ⟨k, rfl⟩ : ∃ m, k = m + 1 := ⟨k - 1, by omega⟩
    have hlt : i < l.length := by omega
    have e : rd l (i : Int) = l[i] := by
      unfold rd
      rw [Int.toNat_natCast, List.getD_eq_getElem?_getD, List.getElem?_eq_getElem hlt]; rfl
    rw [spec_l1All.l0, if_pos (by omega), if_pos (by omega), if_pos (by omega), l1In_f, e]
    simp only [bs]
    rw [List.drop_eq_getElem_cons hlt]
    by_cases h : a ≤ l[i] ∧ l[i] ≤ b
    · rw [decide_eq_true h, if_pos rfl, show ((i : Int) + 1) = ((i + 1 : Nat) : Int) from rfl, wrapn _ (by omega), ih (i + 1) k (by omega) (by omega)]
      congr 1
      rw [decide_eq_decide, List.forall_mem_cons]
      exact ⟨fun hh => ⟨h, hh⟩, fun hh => hh.2⟩
    · rw [decide_eq_false h, if_neg (by decide)]
      congr 1
      symm
      rw [decide_eq_false_iff_not]
      exact fun hh => h (hh _ (List.mem_cons_self ..))
theorem l1All_f (l : List Int) (a b : Int) (hl : l.length < 2 ^ 62) (k : Nat) (hk : l.length < k) : spec_l1All.f k l a b = some (decide (∀ x ∈ l, a ≤ x ∧ x ≤ b)) := by
  unfold spec_l1All.f
  exact l1All_l l a b hl l.length 0 k (by omega) hk
theorem toInt_l (l : List Int) (hl : l.length < 2 ^ 40) : ∀ n i k, i + n = l.length → n < k → laws_toIntS.l0 k l (l.take i ++ List.replicate n 0) (i : Int) = some l := by
  intro n
  induction n with
  | zero =>
    intro i k hi hk
    obtain ⟨k, rfl⟩ : ∃ m, k = m + 1 := ⟨k - 1, by omega⟩
    rw [laws_toIntS.l0, if_neg (by omega), List.replicate_zero, List.append_nil, show i = l.length by omega, List.take_length]
  | succ n ih =>
    intro i k hi hk
    obtain ⟨k, rfl⟩ : ∃ m, k = m + 1 := ⟨k - 1, by omega⟩
    have hlt : i < l.length := by omega
    have e : rd l (i : Int) = l[i] := by
      unfold rd
      rw [Int.toNat_natCast, List.getD_eq_getElem?_getD, List.getElem?_eq_getElem hlt]; rfl
    have ht : (l.take i).length = i := by rw [List.length_take]; omega
    rw [laws_toIntS.l0, if_pos (by omega), if_pos (by omega), if_pos (by rw [List.length_append, ht, List.length_replicate]; omega), e, Int.toNat_natCast, List.set_append_right _ _ (by omega), ht, Nat.sub_self, List.replicate_succ, List.set_cons_zero, show ((i : Int) + 1) = ((i + 1 : Nat) : Int) from rfl, wrapn _ (by omega)]
    have := ih (i + 1) k (by omega) (by omega)
    rw [List.take_succ_eq_append_getElem hlt, List.append_assoc] at this
    exact this
/-- The copy that a law makes of a list. -/
theorem toInt_f (l : List Int) (hl : l.length < 2 ^ 40) (k : Nat) (hk : l.length < k) : laws_toIntS.f k l = some l := by
  unfold laws_toIntS.f
  rw [if_pos (Int.natCast_nonneg _), Int.toNat_natCast, if_pos (by omega)]
  exact toInt_l l hl l.length 0 k (by omega) hk
theorem toGraph_f (l : List Int) (own : Bool) (hl : l.length < 2 ^ 40) (k : Nat) (hk : l.length < k) : laws_toGraph.f k l own = some (l, own) := by
  unfold laws_toGraph.f
  rw [toInt_f l hl k hk]
  simp only [bs]
theorem eqGraph_self (l : List Int) (own : Bool) (hl : l.length < 2 ^ 62) (k : Nat) (hk : l.length < k) : laws_eqGraph.f k l own l own = some true := by
  unfold laws_eqGraph.f
  rw [eqIntS_self l hl k hk]
  simp only [bs, if_true, bne_self_eq_false, Bool.false_eq_true, if_false]
theorem szInt_f (l : List Int) (left : Int) (hl : l.length ≤ maxLen) (h0 : 0 ≤ left) (h2 : left ≤ 1048576) : laws_szIntS.f l left = some (if left < (l.length : Int) then -1 else left - (l.length : Int)) := by
  have e : wrap64 (left - (l.length : Int)) = left - (l.length : Int) := by unfold maxLen at hl; unfold wrap64; omega
  unfold laws_szIntS.f
  rw [e]
  by_cases h : left < (l.length : Int)
  · rw [if_pos (by omega), if_pos h]
  · rw [if_neg (by omega), if_neg h]
theorem szGraph_f (l : List Int) (own : Bool) (left : Int) (hl : l.length ≤ maxLen) (h0 : 0 ≤ left) (h2 : left ≤ 1048576) : laws_szGraph.f l own left = some (if left < (l.length : Int) then -1 else left - (l.length : Int)) := by
  unfold laws_szGraph.f
  rw [szInt_f l left hl h0 h2]
  simp only [bs]
  by_cases h : left < (l.length : Int)
  · rw [if_pos h, if_pos (by decide)]
  · rw [if_neg h, if_neg (by omega)]
/-- The edges of button i to the last d buttons. -/
def eIn (m : List Nat) (i : Nat) : Nat → List (List Int)
  | 0 => []
  | d + 1 => if (nth m i).testBit (m.length - (d + 1)) = true then [(i : Int), ((m.length - (d + 1) : Nat) : Int)] :: eIn m i d else eIn m i d
/-- The edges of the last d buttons to the ones behind. -/
def eOut (m : List Nat) : Nat → List (List Int)
  | 0 => []
  | d + 1 => eIn m (m.length - (d + 1)) d ++ eOut m d
/-- An edge of n buttons. -/
def Edge (n : Nat) (e : List Int) : Prop := ∃ a b : Nat, e = [(a : Int), (b : Int)] ∧ a < n ∧ b < n
theorem eIn_len (m : List Nat) (i : Nat) : ∀ d, (eIn m i d).length ≤ d
  | 0 => Nat.le_refl _
  | d + 1 => by
    have := eIn_len m i d
    unfold eIn
    split
    · rw [List.length_cons]; omega
    · omega
theorem eIn_edge (m : List Nat) (i : Nat) (hi : i < m.length) : ∀ d, d ≤ m.length → ∀ e ∈ eIn m i d, Edge m.length e
  | 0, _ => fun e h => (by cases h)
  | d + 1, hd => by
    intro e h
    unfold eIn at h
    split at h
    · rcases List.mem_cons.1 h with rfl | h
      · exact ⟨i, m.length - (d + 1), rfl, hi, by omega⟩
      · exact eIn_edge m i hi d (by omega) e h
    · exact eIn_edge m i hi d (by omega) e h
theorem eOut_edge (m : List Nat) : ∀ d, d ≤ m.length → ∀ e ∈ eOut m d, Edge m.length e
  | 0, _ => fun e h => (by cases h)
  | d + 1, hd => by
    intro e h
    unfold eOut at h
    rcases List.mem_append.1 h with h | h
    · exact eIn_edge m _ (by omega) d (by omega) e h
    · exact eOut_edge m d (by omega) e h
theorem eOut_len (m : List Nat) : ∀ d, d ≤ 16 → (eOut m d).length ≤ d * 16
  | 0, _ => Nat.le_refl _
  | d + 1, h => by
    have h1 := eOut_len m d (by omega)
    have h2 := eIn_len m (m.length - (d + 1)) d
    unfold eOut
    rw [List.length_append]; omega
theorem sEdg1 (m : List Nat) (hm : Gra.Good m) (own : Bool) (K d : Nat) (hd : d < m.length) (acc0 : Nat)
    (H : ∀ k acc, K ≤ k → acc.length ≤ acc0 → spec_grEdges.l0 k acc (zs m) (m.length : Int) ((m.length - d : Nat) : Int) (zs m) own = some (acc ++ eOut m d)) :
    ∀ e, e ≤ d → ∀ k acc, K + e + 1 ≤ k → acc.length + e ≤ acc0 → acc0 ≤ 2000 → spec_grEdges.l1 k acc ((m.length - (d + 1) : Nat) : Int) ((nth m (m.length - (d + 1)) : Nat) : Int) ((m.length - e : Nat) : Int) (zs m) (m.length : Int) ((m.length - (d + 1) : Nat) : Int) (zs m) own = some (acc ++ (eIn m (m.length - (d + 1)) e ++ eOut m d)) := by
  intro e
  induction e with
  | zero =>
    intro _ k acc hk ha _
    obtain ⟨k, rfl⟩ : ∃ m, k = m + 1 := ⟨k - 1, by omega⟩
    rw [spec_grEdges.l1, if_neg (by rw [zs_length]; omega), show ((m.length - (d + 1) : Nat) : Int) + 1 = ((m.length - d : Nat) : Int) by omega, wrapn _ (by have := hm.le; omega), H k acc (by omega) (by omega)]
    rfl
  | succ e ih =>
    intro he k acc hk ha h0
    obtain ⟨k, rfl⟩ : ∃ m, k = m + 1 := ⟨k - 1, by omega⟩
    have e1 : ((m.length - (e + 1) : Nat) : Int) + 1 = ((m.length - e : Nat) : Int) := by omega
    rw [spec_grEdges.l1, if_pos (by rw [zs_length]; omega), grIn_f _ _ (Nat.lt_trans (hm.bound _) (by decide)), e1, wrapn _ (by have := hm.le; omega)]
    simp only [bs]
    unfold eIn
    by_cases hb : (nth m (m.length - (d + 1))).testBit (m.length - (e + 1)) = true
    · rw [if_pos hb, if_pos hb, if_pos (by omega), ih (by omega) k _ (by omega) (by rw [List.length_append, List.length_singleton]; omega) h0, List.append_assoc]; rfl
    · rw [if_neg hb, if_neg hb, ih (by omega) k acc (by omega) (by omega) h0]
theorem sEdg0 (m : List Nat) (hm : Gra.Good m) (own : Bool) : ∀ d, d ≤ m.length → ∀ k acc, 40 * (d + 1) ≤ k → acc.length ≤ 1000 - 20 * d → spec_grEdges.l0 k acc (zs m) (m.length : Int) ((m.length - d : Nat) : Int) (zs m) own = some (acc ++ eOut m d) := by
  intro d
  induction d with
  | zero =>
    intro _ k acc hk _
    obtain ⟨k, rfl⟩ : ∃ m, k = m + 1 := ⟨k - 1, by omega⟩
    rw [spec_grEdges.l0, if_neg (by omega), eOut, List.append_nil]
  | succ d ih =>
    intro hd k acc hk ha
    have h16 := hm.le
    obtain ⟨k, rfl⟩ : ∃ m, k = m + 1 := ⟨k - 1, by omega⟩
    have e1 : ((m.length - (d + 1) : Nat) : Int) + 1 = ((m.length - d : Nat) : Int) := by omega
    rw [spec_grEdges.l0, if_pos (by omega), if_pos (by omega), if_pos (by rw [zs_length]; omega), rd_nth, e1, wrapn _ (by omega), sEdg1 m hm own (40 * (d + 1)) d (by omega) (1000 - 20 * d) (fun k acc hk ha => ih (by omega) k acc hk ha) d (Nat.le_refl _) k acc (by omega) (by omega) (by omega)]
    rfl
theorem iEdg1 (m : List Nat) (hm : Gra.Good m) (own : Bool) (K d : Nat) (hd : d < m.length) (acc0 : Nat)
    (H : ∀ k acc, K ≤ k → acc.length ≤ acc0 → impl_Graph_edges.l0 k acc (zs m) (m.length : Int) ((m.length - d : Nat) : Int) (zs m) own = some (acc ++ eOut m d)) :
    ∀ e, e ≤ d → ∀ k acc, K + e + 1 ≤ k → acc.length + e ≤ acc0 → acc0 ≤ 2000 → impl_Graph_edges.l1 k acc ((m.length - (d + 1) : Nat) : Int) ((nth m (m.length - (d + 1)) : Nat) : Int) ((m.length - e : Nat) : Int) (zs m) (m.length : Int) ((m.length - (d + 1) : Nat) : Int) (zs m) own = some (acc ++ (eIn m (m.length - (d + 1)) e ++ eOut m d)) := by
  intro e
  induction e with
  | zero =>
    intro _ k acc hk ha _
    obtain ⟨k, rfl⟩ : ∃ m, k = m + 1 := ⟨k - 1, by omega⟩
    rw [impl_Graph_edges.l1, if_neg (by rw [zs_length]; omega), show ((m.length - (d + 1) : Nat) : Int) + 1 = ((m.length - d : Nat) : Int) by omega, wrapn _ (by have := hm.le; omega), H k acc (by omega) (by omega)]
    rfl
  | succ e ih =>
    intro he k acc hk ha h0
    obtain ⟨k, rfl⟩ : ∃ m, k = m + 1 := ⟨k - 1, by omega⟩
    have e1 : ((m.length - (e + 1) : Nat) : Int) + 1 = ((m.length - e : Nat) : Int) := by omega
    rw [impl_Graph_edges.l1, if_pos (by rw [zs_length]; omega), has_f _ _ (Nat.lt_trans (hm.bound _) (by decide)), e1, wrapn _ (by have := hm.le; omega)]
    simp only [bs]
    unfold eIn
    by_cases hb : (nth m (m.length - (d + 1))).testBit (m.length - (e + 1)) = true
    · rw [if_pos hb, if_pos hb, if_pos (by omega), ih (by omega) k _ (by omega) (by rw [List.length_append, List.length_singleton]; omega) h0, List.append_assoc]; rfl
    · rw [if_neg hb, if_neg hb, ih (by omega) k acc (by omega) (by omega) h0]
theorem iEdg0 (m : List Nat) (hm : Gra.Good m) (own : Bool) : ∀ d, d ≤ m.length → ∀ k acc, 40 * (d + 1) ≤ k → acc.length ≤ 1000 - 20 * d → impl_Graph_edges.l0 k acc (zs m) (m.length : Int) ((m.length - d : Nat) : Int) (zs m) own = some (acc ++ eOut m d) := by
  intro d
  induction d with
  | zero =>
    intro _ k acc hk _
    obtain ⟨k, rfl⟩ : ∃ m, k = m + 1 := ⟨k - 1, by omega⟩
    rw [impl_Graph_edges.l0, if_neg (by omega), eOut, List.append_nil]
  | succ d ih =>
    intro hd k acc hk ha
    have h16 := hm.le
    obtain ⟨k, rfl⟩ : ∃ m, k = m + 1 := ⟨k - 1, by omega⟩
    have e1 : ((m.length - (d + 1) : Nat) : Int) + 1 = ((m.length - d : Nat) : Int) := by omega
    rw [impl_Graph_edges.l0, if_pos (by omega), if_pos (by omega), if_pos (by rw [zs_length]; omega), rd_nth, e1, wrapn _ (by omega), iEdg1 m hm own (40 * (d + 1)) d (by omega) (1000 - 20 * d) (fun k acc hk ha => ih (by omega) k acc hk ha) d (Nat.le_refl _) k acc (by omega) (by omega) (by omega)]
    rfl
/-- Both tell the same edges. -/
theorem sEdges (m : List Nat) (hm : Gra.Good m) (own : Bool) (k : Nat) (hk : 700 ≤ k) : spec_grEdges.f k (zs m) own = some (eOut m m.length) := by
  have h := sEdg0 m hm own m.length (Nat.le_refl _) k [] (by have := hm.le; omega) (Nat.zero_le _)
  rw [Nat.sub_self] at h
  unfold spec_grEdges.f
  rw [zs_length]; exact h
theorem iEdges (m : List Nat) (hm : Gra.Good m) (own : Bool) (k : Nat) (hk : 700 ≤ k) : impl_Graph_edges.f k (zs m) own = some (eOut m m.length) := by
  have h := iEdg0 m hm own m.length (Nat.le_refl _) k [] (by have := hm.le; omega) (Nat.zero_le _)
  rw [Nat.sub_self] at h
  unfold impl_Graph_edges.f
  rw [zs_length]; exact h
/-- A string of bytes. -/
def B (l : List UInt8) : ByteArray := ⟨l.toArray⟩
theorem B_app (a b : List UInt8) : B a ++ B b = B (a ++ b) := by
  apply ByteArray.ext
  unfold B
  rw [ByteArray.data_append]; simp
theorem B_size (l : List UInt8) : (B l).size = l.length := by
  show l.toArray.size = l.length
  simp
theorem B_list (l : List UInt8) : (B l).data.toList = l := by simp [B]
theorem c43 : (⟨#[43]⟩ : ByteArray) = B [43] := rfl
theorem c44 : (⟨#[44]⟩ : ByteArray) = B [44] := rfl
theorem c45 : (⟨#[45]⟩ : ByteArray) = B [45] := rfl
theorem c58 : (⟨#[58]⟩ : ByteArray) = B [58] := rfl
/-- Two decimal digits at most. -/
def dec (n : Nat) : List UInt8 := if n < 10 then [UInt8.ofNat (48 + n)] else [UInt8.ofNat (48 + n / 10), UInt8.ofNat (48 + n % 10)]
theorem dec_digits (n : Nat) (h : n < 100) : Lib.decDigits n = dec n := by
  unfold dec
  by_cases h1 : n < 10
  · rw [if_pos h1, Lib.decDigits_one h1]
  · rw [if_neg h1, Lib.decDigits_two h1 h]
theorem dec_len (n : Nat) : (dec n).length ≤ 2 := by
  unfold dec
  split <;> simp
theorem nums_one (m : Nat) : strOfNums [((m : Nat) : Int)] = B [UInt8.ofNat m] := rfl
theorem num_one (n : Nat) (h : n < 10) (k : Nat) (hk : 1 ≤ k) : spec_l1Num.f k (n : Int) = some (B (dec n)) := by
  obtain ⟨k, rfl⟩ : ∃ m, k = m + 1 := ⟨k - 1, by omega⟩
  have e : wrap64 (48 + (n : Int)) % 256 = ((48 + n : Nat) : Int) := by unfold wrap64; omega
  rw [spec_l1Num.f, if_pos (by omega), e, nums_one]
  unfold dec
  rw [if_pos h]
theorem num_f (n : Nat) (h : n ≤ 16) (k : Nat) (hk : 2 ≤ k) : spec_l1Num.f k (n : Int) = some (B (dec n)) := by
  by_cases h1 : n < 10
  · exact num_one n h1 k (by omega)
  · obtain ⟨k, rfl⟩ : ∃ m, k = m + 1 := ⟨k - 1, by omega⟩
    have e1 : wrap64 (Int.tdiv (n : Int) 10) = ((n / 10 : Nat) : Int) := by
      rw [show Int.tdiv (n : Int) 10 = ((n / 10 : Nat) : Int) from rfl]; unfold wrap64; omega
    have e2 : wrap64 (48 + Int.tmod (n : Int) 10) % 256 = ((48 + n % 10 : Nat) : Int) := by
      rw [show Int.tmod (n : Int) 10 = ((n % 10 : Nat) : Int) from rfl]; unfold wrap64; omega
    rw [spec_l1Num.f, if_neg (by omega), e1, num_one (n / 10) (by omega) k (by omega)]
    simp only [bs, e2, nums_one, B_size, B_app]
    have hd := dec_len (n / 10)
    rw [if_pos (by simp only [List.length_cons, List.length_nil]; omega)]
    unfold dec
    rw [if_pos (by omega), if_neg h1]; rfl
theorem itoa_f (n : Nat) (h : n ≤ 16) : strconv_Itoa.f (n : Int) = some (B (dec n)) := by
  unfold strconv_Itoa.f
  rw [if_pos (by omega), Int.toNat_natCast, dec_digits n (by omega)]; rfl
/-- An edge's word. -/
def tx (e : List Int) : List UInt8 := dec (rd e 0).toNat ++ 45 :: dec (rd e 1).toNat
theorem tx_len (e : List Int) : (tx e).length ≤ 5 := by
  have h1 := dec_len (rd e 0).toNat
  have h2 := dec_len (rd e 1).toNat
  unfold tx
  rw [List.length_append, List.length_cons]; omega
theorem join_snoc (l : List (List UInt8)) (x sep : List UInt8) (h : l ≠ []) : Lib.join (l ++ [x]) sep = Lib.join l sep ++ (sep ++ x) := by
  cases l with
  | nil => exact absurd rfl h
  | cons y r =>
    rw [List.cons_append, Lib.join_cons, Lib.join_cons]
    simp [Lib.joinTail, List.append_assoc]
/-- The first words, joined. -/
def jn (es : List (List Int)) (i : Nat) : List UInt8 := Lib.join ((es.take i).map tx) [44]
theorem jn_zero (es : List (List Int)) : jn es 0 = [] := rfl
theorem jn_one (es : List (List Int)) (h : 0 < es.length) : jn es 1 = tx es[0] := by
  unfold jn
  rw [List.take_succ_eq_append_getElem h]
  exact Lib.join_one _ _
theorem jn_succ (es : List (List Int)) (i : Nat) (h : i < es.length) (h0 : 0 < i) : jn es (i + 1) = jn es i ++ (44 :: tx es[i]) := by
  unfold jn
  rw [List.take_succ_eq_append_getElem h, List.map_append, List.map_singleton, join_snoc]
  · rfl
  · intro e
    have := congrArg List.length e
    rw [List.length_map, List.length_take, List.length_nil] at this; omega
theorem jn_len (es : List (List Int)) : ∀ i, i ≤ es.length → (jn es i).length ≤ 6 * i
  | 0, _ => Nat.le_refl _
  | i + 1, h => by
    have ih := jn_len es i (by omega)
    by_cases h0 : 0 < i
    · rw [jn_succ es i (by omega) h0, List.length_append, List.length_cons]
      have := tx_len es[i]; omega
    · obtain rfl : i = 0 := by omega
      rw [jn_one es (by omega)]
      have := tx_len es[0]; omega
/-- The text of a graph of n buttons with given edges. -/
def txt (n : Nat) (own : Bool) (es : List (List Int)) : List UInt8 := (dec n ++ if own then [43] else []) ++ (58 :: (if es.length = 0 then [45] else jn es es.length))
theorem grText_l (n : Nat) (hn : n ≤ 16) (es : List (List Int)) (hE : ∀ e ∈ es, Edge n e) (hl : es.length ≤ 1000) (pre : List UInt8) (hp : pre.length ≤ 1000) :
    ∀ d i k, i + d = es.length → d + 10 < k → spec_grText.l0 k (B (pre ++ jn es i)) es (es.length : Int) (i : Int) = some (B (pre ++ jn es es.length)) := by
  intro d
  induction d with
  | zero =>
    intro i k hi hk
    obtain ⟨k, rfl⟩ : ∃ m, k = m + 1 := ⟨k - 1, by omega⟩
    rw [spec_grText.l0, if_neg (by omega), show i = es.length by omega]
  | succ d ih =>
    intro i k hi hk
    obtain ⟨k, rfl⟩ : ∃ m, k = m + 1 := ⟨k - 1, by omega⟩
    have hlt : i < es.length := by omega
    have hjl := jn_len es i (by omega)
    obtain ⟨a, b, he, ha, hb⟩ := hE _ (List.getElem_mem hlt)
    have e : rd_L2 es (i : Int) = [(a : Int), (b : Int)] := by
      unfold rd_L2
      rw [Int.toNat_natCast, List.getD_eq_getElem?_getD, List.getElem?_eq_getElem hlt]; exact he
    have et : tx es[i] = dec a ++ 45 :: dec b := by rw [he]; rfl
    have e0 : rd [(a : Int), (b : Int)] 0 = (a : Int) := rfl
    have e1 : rd [(a : Int), (b : Int)] 1 = (b : Int) := rfl
    have g1 : (i : Int) < (es.length : Int) := by omega
    have g2 : (0 : Int) ≤ (i : Int) := by omega
    have g3 : (0 : Int) < ([(a : Int), (b : Int)].length : Int) := by rw [show [(a : Int), (b : Int)].length = 2 from rfl]; decide
    have g4 : (1 : Int) < ([(a : Int), (b : Int)].length : Int) := by rw [show [(a : Int), (b : Int)].length = 2 from rfl]; decide
    have la := dec_len a
    have lb := dec_len b
    rw [spec_grText.l0, e]
    simp only [if_pos g1, if_pos g2, if_pos g3, if_pos g4, e0, e1]
    simp only [num_f a (by omega) k (by omega), num_f b (by omega) k (by omega), bs, c44, c45, B_app, B_size, List.length_append, List.length_cons, List.length_nil]
    have f1 : (dec a).length + (0 + 1) ≤ 9223372036854775807 := by omega
    have f2 : (dec a).length + (0 + 1) + (dec b).length ≤ 9223372036854775807 := by omega
    have f3 : pre.length + (jn es i).length + (0 + 1) ≤ 9223372036854775807 := by omega
    have f4 : pre.length + (jn es i).length + (0 + 1) + ((dec a).length + (0 + 1) + (dec b).length) ≤ 9223372036854775807 := by omega
    have f5 : pre.length + (jn es i).length + ((dec a).length + (0 + 1) + (dec b).length) ≤ 9223372036854775807 := by omega
    have en : ((i : Int) + 1) = ((i + 1 : Nat) : Int) := rfl
    have ihs := ih (i + 1) k (by omega) (by omega)
    by_cases h0 : 0 < i
    · rw [if_pos (show (i : Int) > 0 by omega)]
      rw [jn_succ es i hlt h0, et] at ihs
      rw [if_pos (by omega), if_pos (by omega), if_pos (by omega), if_pos (by omega), en, wrapn _ (by omega)]
      simpa [List.append_assoc] using ihs
    · obtain rfl : i = 0 := by omega
      rw [jn_one es (by omega), et] at ihs
      rw [if_neg (show ¬ ((0 : Nat) : Int) > 0 by decide), if_pos (by omega), if_pos (by omega), if_pos (by omega), en, wrapn _ (by omega)]
      simpa [jn_zero, List.append_assoc] using ihs
theorem graphText_l (n : Nat) (hn : n ≤ 16) (es : List (List Int)) (hE : ∀ e ∈ es, Edge n e) (hl : es.length ≤ 1000) (pre : List UInt8) (hp : pre.length ≤ 1000) :
    ∀ d i k, i + d = es.length → d + 10 < k → impl_graphText.l0 k (B pre) ((es.take i).map fun e => B (tx e)) es (es.length : Int) (i : Int) = some (B (pre ++ (58 :: (if es.length = 0 then [45] else jn es es.length)))) := by
  intro d
  induction d with
  | zero =>
    intro i k hi hk
    obtain ⟨k, rfl⟩ : ∃ m, k = m + 1 := ⟨k - 1, by omega⟩
    obtain rfl : i = es.length := by omega
    have hj : (List.map (fun e : ByteArray => e.data.toList) (es.map fun e => B (tx e))) = es.map tx := by
      rw [List.map_map]
      exact List.map_congr_left fun e _ => B_list _
    have hjl := jn_len es es.length (Nat.le_refl _)
    rw [impl_graphText.l0, if_neg (by omega), List.take_length, List.length_map]
    by_cases h0 : es.length = 0
    · rw [if_pos (by omega), if_pos h0, if_pos (by rw [B_size]; omega)]
      have e : strings_Join.f [(⟨#[45]⟩ : ByteArray)] (⟨#[44]⟩ : ByteArray) = some (B [45]) := by
        unfold strings_Join.f
        rw [List.map_singleton, Lib.join_one, if_pos ⟨by decide, by decide⟩]; rfl
      rw [e]
      simp only [bs, c58, B_app, B_size, List.length_append, List.length_cons, List.length_nil]
      rw [if_pos (by omega), List.append_assoc]; rfl
    · have e : strings_Join.f (es.map fun e => B (tx e)) (⟨#[44]⟩ : ByteArray) = some (B (jn es es.length)) := by
        unfold strings_Join.f jn at *
        rw [List.take_length] at hjl ⊢
        rw [hj, List.length_map, show ((⟨#[44]⟩ : ByteArray).data.toList) = [44] from rfl, if_pos ⟨hl, by omega⟩]; rfl
      rw [if_neg (by omega), if_neg h0, if_pos (by rw [B_size]; omega), e]
      simp only [bs, c58, B_app, B_size, List.length_append, List.length_cons, List.length_nil]
      rw [if_pos (by omega), List.append_assoc]; rfl
  | succ d ih =>
    intro i k hi hk
    obtain ⟨k, rfl⟩ : ∃ m, k = m + 1 := ⟨k - 1, by omega⟩
    have hlt : i < es.length := by omega
    obtain ⟨a, b, he, ha, hb⟩ := hE _ (List.getElem_mem hlt)
    have e : rd_L2 es (i : Int) = [(a : Int), (b : Int)] := by
      unfold rd_L2
      rw [Int.toNat_natCast, List.getD_eq_getElem?_getD, List.getElem?_eq_getElem hlt]; exact he
    have et : tx es[i] = dec a ++ 45 :: dec b := by rw [he]; rfl
    have e0 : rd [(a : Int), (b : Int)] 0 = (a : Int) := rfl
    have e1 : rd [(a : Int), (b : Int)] 1 = (b : Int) := rfl
    have g1 : (i : Int) < (es.length : Int) := by omega
    have g2 : (0 : Int) ≤ (i : Int) := by omega
    have g3 : (0 : Int) < ([(a : Int), (b : Int)].length : Int) := by rw [show [(a : Int), (b : Int)].length = 2 from rfl]; decide
    have g4 : (1 : Int) < ([(a : Int), (b : Int)].length : Int) := by rw [show [(a : Int), (b : Int)].length = 2 from rfl]; decide
    have la := dec_len a
    have lb := dec_len b
    have hw : ((es.take i).map fun e => B (tx e)).length = i := by rw [List.length_map, List.length_take]; omega
    rw [impl_graphText.l0, e, hw]
    simp only [if_pos g1, if_pos g2, if_pos g3, if_pos g4, e0, e1]
    simp only [itoa_f a (by omega), itoa_f b (by omega), bs, c45, B_app, B_size, List.length_append, List.length_cons, List.length_nil]
    have ihs := ih (i + 1) k (by omega) (by omega)
    rw [List.take_succ_eq_append_getElem hlt, List.map_append, List.map_singleton, et] at ihs
    rw [if_pos (by omega), if_pos (by omega), if_pos (by omega), show ((i : Int) + 1) = ((i + 1 : Nat) : Int) from rfl, wrapn _ (by omega)]
    simpa [List.append_assoc] using ihs
/-- The reference's text of a good graph. -/
theorem sText (m : List Nat) (hm : Gra.Good m) (own : Bool) (k : Nat) (hk : 1800 ≤ k) : spec_grText.f k (zs m) own = some (B (txt m.length own (eOut m m.length))) := by
  obtain ⟨k, rfl⟩ : ∃ q, k = q + 1 := ⟨k - 1, by omega⟩
  have h16 := hm.le
  have hel := eOut_len m m.length h16
  have hld := dec_len m.length
  have goal : ∀ pre : List UInt8, pre.length ≤ 10 → spec_grText.j0 (k + 1) (B pre) (zs m) own = some (B (pre ++ (58 :: (if (eOut m m.length).length = 0 then [45] else jn (eOut m m.length) (eOut m m.length).length)))) := by
    intro pre hp
    rw [spec_grText.j0, B_size, if_pos (by omega), sEdges m hm own k (by omega)]
    simp only [bs, c58, c45, B_app, B_size, List.length_append, List.length_cons, List.length_nil]
    by_cases h0 : (eOut m m.length).length = 0
    · rw [if_pos (by omega), if_pos (by omega), if_pos h0, List.append_assoc]; rfl
    · have := grText_l m.length h16 (eOut m m.length) (eOut_edge m _ (Nat.le_refl _)) (by omega) (pre ++ [58]) (by rw [List.length_append, List.length_cons, List.length_nil]; omega) (eOut m m.length).length 0 k (by omega) (by omega)
      rw [jn_zero, List.append_nil] at this
      rw [if_neg (by omega), if_neg h0]
      rw [List.append_assoc] at this
      exact this
  unfold spec_grText.f txt
  rw [zs_length, num_f m.length h16 _ (by omega)]
  simp only [bs]
  cases own with
  | true =>
    rw [if_pos rfl, B_size, if_pos (by omega), c43, B_app, goal _ (by rw [List.length_append, List.length_cons, List.length_nil]; omega)]; rfl
  | false =>
    rw [if_neg (by decide), goal _ (by omega)]
    simp only [Bool.false_eq_true, if_false, List.append_nil]
/-- The program's text of a good graph. -/
theorem iText (m : List Nat) (hm : Gra.Good m) (own : Bool) (k : Nat) (hk : 1800 ≤ k) : impl_graphText.f k (zs m) own = some (B (txt m.length own (eOut m m.length))) := by
  obtain ⟨k, rfl⟩ : ∃ q, k = q + 1 := ⟨k - 1, by omega⟩
  have h16 := hm.le
  have hel := eOut_len m m.length h16
  have hld := dec_len m.length
  have goal : ∀ pre : List UInt8, pre.length ≤ 10 → impl_graphText.j0 (k + 1) (B pre) (zs m) own = some (B (pre ++ (58 :: (if (eOut m m.length).length = 0 then [45] else jn (eOut m m.length) (eOut m m.length).length)))) := by
    intro pre hp
    rw [impl_graphText.j0, iEdges m hm own k (by omega)]
    simp only [bs]
    exact graphText_l m.length h16 (eOut m m.length) (eOut_edge m _ (Nat.le_refl _)) (by omega) pre (by omega) (eOut m m.length).length 0 k (by omega) (by omega)
  unfold impl_graphText.f txt
  rw [zs_length, itoa_f m.length h16]
  simp only [bs]
  cases own with
  | true =>
    rw [if_pos rfl, B_size, if_pos (by omega), c43, B_app, goal _ (by rw [List.length_append, List.length_cons, List.length_nil]; omega)]; rfl
  | false =>
    rw [if_neg (by decide), goal _ (by omega)]
    simp only [Bool.false_eq_true, if_false, List.append_nil]

end Go.Proofs.YteabfdcobkgmmaaDoor.LemFnExactGraphText
