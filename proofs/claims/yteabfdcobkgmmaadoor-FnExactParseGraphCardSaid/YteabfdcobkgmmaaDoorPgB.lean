/- Texts cut at a byte, as lists: what the program's and the reference's ways of cutting come to. -/
import Derived.Test.YteabfdcobkgmmaaDoorLemFnExactParseGraph
import Derived.Lib.Split
import Derived.Lib.IndexMore
import Derived.Lib.AtoiAll
namespace Go.Proofs.YteabfdcobkgmmaaDoor.PgB
open Go.RowKit Go.Proofs.YteabfdcobkgmmaaDoor.PFnExactParseGraph Go.Proofs.YteabfdcobkgmmaaDoorW.PrintWords Go.Proofs.YteabfdcobkgmmaaDoorW.PrintLast Go.Proofs.YteabfdcobkgmmaaDoor.Bit Go.Proofs.YteabfdcobkgmmaaDoor.Gra Go.Proofs.YteabfdcobkgmmaaDoor.LemFnExactParseGraph
set_option linter.unusedVariables false
set_option linter.unusedSimpArgs false
/-- A text's pieces between the bytes b. -/
def spl (b : UInt8) : List UInt8 → List (List UInt8)
  | [] => [[]]
  | c :: r => if c = b then [] :: spl b r else match spl b r with
    | [] => [[c]]
    | x :: t => (c :: x) :: t
theorem spl_ne (b : UInt8) : ∀ l, spl b l ≠ []
  | [] => by simp [spl]
  | c :: r => by
    unfold spl
    split
    · simp
    · split <;> simp
/-- Pieces, with something ahead of the first one. -/
def glue (x : List UInt8) : List (List UInt8) → List (List UInt8)
  | [] => [x]
  | y :: t => (x ++ y) :: t
theorem glue_nil {l : List (List UInt8)} (h : l ≠ []) : glue [] l = l := by
  cases l with
  | nil => exact absurd rfl h
  | cons y t => rfl
theorem spl_hit (b : UInt8) (r : List UInt8) : spl b (b :: r) = [] :: spl b r := by rw [spl, if_pos rfl]
theorem spl_miss (b c : UInt8) (r : List UInt8) (h : c ≠ b) : spl b (c :: r) = glue [c] (spl b r) := by
  rw [spl, if_neg h]
  cases hs : spl b r with
  | nil => rfl
  | cons x t => rfl
theorem glue_glue (x y : List UInt8) (l : List (List UInt8)) : glue x (glue y l) = glue (x ++ y) l := by
  cases l with
  | nil => rfl
  | cons z t => simp [glue, List.append_assoc]
theorem spl_none (b : UInt8) : ∀ l, b ∉ l → spl b l = [l]
  | [], _ => rfl
  | c :: r, h => by
    rw [List.mem_cons, not_or] at h
    rw [spl_miss b c r (Ne.symm h.1), spl_none b r h.2]; rfl
theorem spl_at (b : UInt8) (r : List UInt8) : ∀ x, b ∉ x → spl b (x ++ b :: r) = x :: spl b r
  | [], _ => spl_hit b r
  | c :: x, h => by
    rw [List.mem_cons, not_or] at h
    rw [List.cons_append, spl_miss b c _ (Ne.symm h.1), spl_at b r x h.2]; rfl
theorem spl_piece (b : UInt8) : ∀ l, ∀ x ∈ spl b l, x.length ≤ l.length
  | [], x, h => by
    rw [spl, List.mem_singleton] at h
    rw [h]; exact Nat.le_refl _
  | c :: r, x, h => by
    by_cases hc : c = b
    · subst hc
      rw [spl_hit, List.mem_cons] at h
      rcases h with rfl | h
      · exact Nat.zero_le _
      · have := spl_piece c r x h; rw [List.length_cons]; omega
    · rw [spl_miss b c r hc] at h
      cases hs : spl b r with
      | nil => exact absurd hs (spl_ne b r)
      | cons y t =>
        rw [hs] at h
        rcases List.mem_cons.1 h with rfl | h
        · have := spl_piece b r y (by rw [hs]; exact List.mem_cons_self ..)
          rw [List.length_append, List.length_cons, List.length_cons, List.length_nil]; omega
        · have := spl_piece b r x (by rw [hs]; exact List.mem_cons_of_mem _ h)
          rw [List.length_cons]; omega
theorem glue_length (x : List UInt8) {l : List (List UInt8)} (h : l ≠ []) : (glue x l).length = l.length := by
  cases l with
  | nil => exact absurd rfl h
  | cons y t => rfl
theorem spl_len (b : UInt8) : ∀ l, (spl b l).length ≤ l.length + 1
  | [] => Nat.le_refl _
  | c :: r => by
    have ih := spl_len b r
    by_cases hc : c = b
    · subst hc
      rw [spl_hit, List.length_cons, List.length_cons]; omega
    · rw [spl_miss b c r hc, glue_length _ (spl_ne b r), List.length_cons]; omega
theorem B_inj {x y : List UInt8} (h : B x = B y) : x = y := by
  have := congrArg (fun s : ByteArray => s.data.toList) h
  simpa [B_list] using this
theorem B_of (s : ByteArray) : B s.data.toList = s := by
  unfold B
  rfl
theorem bt_B (l : List UInt8) (i : Nat) (h : i < l.length) : bt (B l) (i : Int) = ((l[i].toNat : Nat) : Int) := by
  unfold bt
  rw [dif_pos (by rw [Int.toNat_natCast, B_size]; exact h)]
  rfl
theorem cut_B (l : List UInt8) (a b : Nat) : (B l).extract a b = B ((l.drop a).take (b - a)) := by
  rw [← B_of ((B l).extract a b), Lib.extract_data, B_list]
theorem u8_inj (a b : UInt8) : ((a.toNat : Nat) : Int) = ((b.toNat : Nat) : Int) ↔ a = b := by
  constructor
  · intro h; exact UInt8.toNat_inj.1 (by omega)
  · rintro rfl; rfl
theorem split_l (l : List UInt8) (b : UInt8) (hl : l.length ≤ 2000000) : ∀ n i k from_ (out : List ByteArray), i + n = l.length → from_ ≤ i → n < k → out.length ≤ i →
    spec_l1Split.l0 k (B l) ((b.toNat : Nat) : Int) out (from_ : Int) (i : Int) = some (out ++ (glue ((l.drop from_).take (i - from_)) (spl b (l.drop i))).map B) := by
  intro n
  induction n with
  | zero =>
    intro i k from_ out hi hf hk ho
    obtain ⟨k, rfl⟩ : ∃ m, k = m + 1 := ⟨k - 1, by omega⟩
    rw [spec_l1Split.l0, if_neg (by rw [B_size]; omega), if_pos (by omega), if_pos (by rw [B_size]; omega), if_pos (by omega), Int.toNat_natCast, B_size, cut_B, List.drop_eq_nil_of_le (show l.length ≤ i by omega)]
    rw [show spl b [] = [[]] from rfl, glue, List.append_nil, show l.length = i by omega]; rfl
  | succ n ih =>
    intro i k from_ out hi hf hk ho
    obtain ⟨k, rfl⟩ : ∃ m, k = m + 1 := ⟨k - 1, by omega⟩
    have hlt : i < l.length := by omega
    have e1 : ((i : Int) + 1) = ((i + 1 : Nat) : Int) := rfl
    have hd : l.drop i = l[i] :: l.drop (i + 1) := List.drop_eq_getElem_cons hlt
    rw [spec_l1Split.l0, if_pos (by rw [B_size]; omega), if_pos (by omega), bt_B l i hlt, e1, wrapn _ (by omega)]
    by_cases hb : l[i] = b
    · rw [if_pos ((u8_inj _ _).2 hb), if_pos (by omega), if_pos (by omega), if_pos (by rw [B_size]; omega), if_pos (by omega), Int.toNat_natCast, Int.toNat_natCast, cut_B,
        ih (i + 1) k (i + 1) _ (by omega) (Nat.le_refl _) (by omega) (by rw [List.length_append, List.length_singleton]; omega), hd, hb, spl_hit, Nat.sub_self, List.take_zero, glue_nil (spl_ne _ _), glue, List.append_nil, List.append_assoc]; rfl
    · rw [if_neg (fun h => hb ((u8_inj _ _).1 h)), ih (i + 1) k from_ out (by omega) (by omega) (by omega) (by omega), hd, spl_miss b _ _ hb, glue_glue]
      have e : (l.drop from_).take (i - from_) ++ [l[i]] = (l.drop from_).take (i + 1 - from_) := by
        have h3 : (l.drop from_)[i - from_]? = some l[i] := by
          rw [List.getElem?_drop, show from_ + (i - from_) = i by omega, List.getElem?_eq_getElem hlt]
        rw [show i + 1 - from_ = (i - from_) + 1 by omega, List.take_add_one, h3]; rfl
      rw [e]
/-- The reference's way to split. -/
theorem split_f (l : List UInt8) (b : UInt8) (hl : l.length ≤ 2000000) (k : Nat) (hk : l.length < k) (v : Int) (hv : v = ((b.toNat : Nat) : Int)) : spec_l1Split.f k (B l) v = some ((spl b l).map B) := by
  unfold spec_l1Split.f
  have := split_l l b hl l.length 0 k 0 [] (by omega) (Nat.le_refl _) hk (Nat.le_refl _)
  rw [hv]
  rw [show ((0 : Nat) : Int) = (0 : Int) from rfl, Nat.sub_self, List.take_zero, List.drop_zero, glue_nil (spl_ne _ _), List.nil_append] at this
  exact this
theorem index_at (b : UInt8) (r : List UInt8) : ∀ x, b ∉ x → Lib.indexByte (x ++ b :: r) b = (x.length : Int)
  | [], _ => by
    rw [List.nil_append, Lib.indexByte, if_pos (by simp)]; rfl
  | c :: x, h => by
    rw [List.mem_cons, not_or] at h
    have hc : ¬ (c == b) = true := by rw [beq_iff_eq]; exact fun e => h.1 e.symm
    rw [List.cons_append, Lib.indexByte, if_neg hc, index_at b r x h.2, if_neg (by rw [beq_iff_eq]; omega), List.length_cons]; rfl
theorem index_miss (b : UInt8) : ∀ l, b ∉ l → Lib.indexByte l b = -1
  | [], _ => rfl
  | c :: x, h => by
    rw [List.mem_cons, not_or] at h
    have hc : ¬ (c == b) = true := by rw [beq_iff_eq]; exact fun e => h.1 e.symm
    rw [Lib.indexByte, if_neg hc, index_miss b x h.2, if_pos (by decide)]
theorem cut_at (b : UInt8) (x r : List UInt8) (h : b ∉ x) : Lib.cut (x ++ b :: r) [b] = (x, r, true) := by
  unfold Lib.cut
  rw [Lib.index_one, index_at b r x h, if_pos (by omega), Int.toNat_natCast, List.take_left', List.drop_append]
  · simp
  · rfl
theorem cut_len (l sep : List UInt8) : (Lib.cut l sep).1.length ≤ l.length ∧ (Lib.cut l sep).2.1.length ≤ l.length := by
  unfold Lib.cut
  split
  · exact ⟨by rw [List.length_take]; omega, by rw [List.length_drop]; omega⟩
  · exact ⟨Nat.le_refl _, Nat.zero_le _⟩
theorem trim_len (l p : List UInt8) : (Lib.trimSuffix l p).length ≤ l.length := by
  unfold Lib.trimSuffix
  split
  · rw [List.length_take]; omega
  · exact Nat.le_refl _
theorem first_of (b : UInt8) : ∀ l : List UInt8, b ∈ l → ∃ x r, l = x ++ b :: r ∧ b ∉ x
  | c :: t, h => by
    by_cases hc : b = c
    · exact ⟨[], t, by rw [hc]; rfl, by simp⟩
    · rcases List.mem_cons.1 h with h | h
      · exact absurd h hc
      · obtain ⟨x, r, rfl, hx⟩ := first_of b t h
        exact ⟨c :: x, r, rfl, by rw [List.mem_cons, not_or]; exact ⟨hc, hx⟩⟩
theorem splitK_spl (b : UInt8) : ∀ n (l : List UInt8), l.length ≤ n → Lib.splitK [b] 0 (Lib.count l [b]) l = spl b l := by
  intro n
  induction n with
  | zero =>
    intro l hl
    obtain rfl := List.length_eq_zero_iff.1 (Nat.le_zero.1 hl)
    rfl
  | succ n ih =>
    intro l hl
    by_cases hb : b ∈ l
    · obtain ⟨x, r, rfl, hx⟩ := first_of b l hb
      have hi : Lib.index (x ++ b :: r) [b] = (x.length : Int) := by rw [Lib.index_one, index_at b r x hx]
      rw [List.length_append, List.length_cons] at hl
      have hd : (x ++ b :: r).drop (x.length + 1) = r := by rw [List.drop_append]; simp
      rw [Lib.count_hit (by simp) hi, show [b].length = 1 from rfl, hd, Nat.add_comm 1, Lib.splitK, hi, if_neg (by rw [beq_iff_eq]; omega), Int.toNat_natCast, show [b].length = 1 from rfl, hd, ih r (by omega), spl_at b r x hx, Nat.add_zero, List.take_left' rfl]
    · have hi : Lib.index l [b] = -1 := by rw [Lib.index_one, index_miss b l hb]
      rw [Lib.count_miss hi, spl_none b l hb]; rfl
/-- The library's way to split. -/
theorem splitB_spl (b : UInt8) (l : List UInt8) : Lib.splitB (B [b]) 0 (Lib.countB (B l) (B [b])) (B l) = (spl b l).map B := by
  have h := Lib.splitB_data (B [b]) 0 (Lib.countB (B l) (B [b])) (B l)
  have hc : Lib.countB (B l) (B [b]) = Lib.count l [b] := rfl
  have hs := splitK_spl b l.length l (Nat.le_refl _)
  rw [B_list, B_list] at h
  rw [hc] at h ⊢
  rw [hs] at h
  rw [← h, List.map_map]
  exact (List.map_id'' (fun s => B_of s) _).symm
/-- What is said of the numbers of up to 16 buttons, by looking at each. -/
theorem dec_read : ∀ n : Nat, n ≤ 16 → spec_l1Read.f 10 (B (dec n)) = some (n : Int) := by
  have h : (List.range 17).all (fun n => decide (spec_l1Read.f 10 (B (dec n)) = some (n : Int))) = true := by kernel_rfl
  intro n hn
  exact of_decide_eq_true (List.all_eq_true.1 h n (List.mem_range.2 (by omega)))
theorem dec_atoi : ∀ n : Nat, n ≤ 16 → strconv_Atoi.f (B (dec n)) = some ((n : Int), none) := by
  have h : (List.range 17).all (fun n => decide (strconv_Atoi.f (B (dec n)) = some ((n : Int), none))) = true := by kernel_rfl
  intro n hn
  exact of_decide_eq_true (List.all_eq_true.1 h n (List.mem_range.2 (by omega)))
theorem dec_trim : ∀ n : Nat, n ≤ 16 → Lib.trimSuffix (dec n ++ [43]) [43] = dec n ∧ Lib.hasSuffix (dec n ++ [43]) [43] = true ∧ Lib.trimSuffix (dec n) [43] = dec n ∧ Lib.hasSuffix (dec n) [43] = false := by
  have h : (List.range 17).all (fun n => decide (Lib.trimSuffix (dec n ++ [43]) [43] = dec n ∧ Lib.hasSuffix (dec n ++ [43]) [43] = true ∧ Lib.trimSuffix (dec n) [43] = dec n ∧ Lib.hasSuffix (dec n) [43] = false)) = true := by kernel_rfl
  intro n hn
  exact of_decide_eq_true (List.all_eq_true.1 h n (List.mem_range.2 (by omega)))
theorem dec_free : ∀ n : Nat, n ≤ 16 → (58 : UInt8) ∉ dec n ∧ (44 : UInt8) ∉ dec n ∧ (45 : UInt8) ∉ dec n ∧ dec n ≠ [] := by
  have h : (List.range 17).all (fun n => decide ((58 : UInt8) ∉ dec n ∧ (44 : UInt8) ∉ dec n ∧ (45 : UInt8) ∉ dec n ∧ dec n ≠ [])) = true := by kernel_rfl
  intro n hn
  exact of_decide_eq_true (List.all_eq_true.1 h n (List.mem_range.2 (by omega)))
theorem read_up (s : ByteArray) (v : Int) (k : Nat) (h : spec_l1Read.f k s = some v) : ∀ d, spec_l1Read.f (k + d) s = some v
  | 0 => h
  | d + 1 => spec_l1Read.mono s (k + d) v (read_up s v k h d)
theorem read_dec (n : Nat) (hn : n ≤ 16) (k : Nat) (hk : 10 ≤ k) : spec_l1Read.f k (B (dec n)) = some (n : Int) := by
  have := read_up _ _ 10 (dec_read n hn) (k - 10)
  rwa [show 10 + (k - 10) = k by omega] at this
theorem read_l (s : ByteArray) : ∀ d i k (acc : Int), i + d = s.size → d < k → s.size < 10 → ∃ v, spec_l1Read.l0 k s acc (i : Int) = some v := by
  intro d
  induction d with
  | zero =>
    intro i k acc hi hk _
    obtain ⟨k, rfl⟩ : ∃ m, k = m + 1 := ⟨k - 1, by omega⟩
    rw [spec_l1Read.l0, if_neg (by omega)]
    exact ⟨_, rfl⟩
  | succ d ih =>
    intro i k acc hi hk h10
    obtain ⟨k, rfl⟩ : ∃ m, k = m + 1 := ⟨k - 1, by omega⟩
    rw [spec_l1Read.l0, if_pos (by omega), if_pos (by omega)]
    split
    · exact ⟨_, rfl⟩
    · split
      · exact ⟨_, rfl⟩
      · rw [show ((i : Int) + 1) = ((i + 1 : Nat) : Int) from rfl, wrapn _ (by omega)]
        exact ih (i + 1) k _ (by omega) (by omega) h10
/-- The reference reads something of each text. -/
theorem read_any (s : ByteArray) (k : Nat) (hk : 20 ≤ k) : ∃ v, spec_l1Read.f k s = some v := by
  obtain ⟨k, rfl⟩ : ∃ m, k = m + 1 := ⟨k - 1, by omega⟩
  have j : ∀ b, s.size ≤ 6 → ∃ v, spec_l1Read.j0 (k + 1) s b = some v := by
    intro b h6
    rw [spec_l1Read.j0]
    split
    · exact ⟨_, rfl⟩
    · exact read_l s s.size 0 k 0 (by omega) (by omega) (by omega)
  unfold spec_l1Read.f
  rw [l1In_f]
  simp only [bs]
  by_cases h : 1 ≤ (s.size : Int) ∧ (s.size : Int) ≤ 6
  · rw [decide_eq_true h, if_pos rfl, if_pos (by omega)]
    split
    · exact j _ (by omega)
    · exact j _ (by omega)
  · rw [decide_eq_false h, if_neg (by decide), spec_l1Read.j0, if_pos rfl]
    exact ⟨_, rfl⟩
end Go.Proofs.YteabfdcobkgmmaaDoor.PgB
