/- What is left by first rows adds up, and the table of last rows tells first rows that clear them: for all bytes that the draws read. No conditions. -/
import Derived.Test.YtgnjndkbccakgaaLemFnFirstRowsAreLinear
import Derived.Test.YtgnjndkbccakgaaCha
namespace Go.Proofs.Ytgnjndkbccakgaa.Pure
open Go.RowKit Go.Proofs.Ytgnjndkbccakgaa.PFnFirstRowsAreLinear Go.Proofs.YtgnjndkbccakgaaW.PrintWords Go.Proofs.YtgnjndkbccakgaaW.PrintLast Go.Proofs.Ytgnjndkbccakgaa.Bit Go.Proofs.Ytgnjndkbccakgaa.Row Go.Proofs.Ytgnjndkbccakgaa.Lin Go.Proofs.Ytgnjndkbccakgaa.Ker Go.Proofs.Ytgnjndkbccakgaa.Cnt Go.Proofs.Ytgnjndkbccakgaa.Cha Go.Proofs.Ytgnjndkbccakgaa.LemFnFirstRowsAreLinear

theorem cntB_le (p : Nat → Bool) : ∀ n, cntB p n ≤ n
  | 0 => Nat.le_refl _
  | n + 1 => by
    have := cntB_le p n
    show _ + _ ≤ _
    split <;> omega
theorem rd_table (r c : Nat) (own : Bool) (N i : Nat) (h : i < N) : rd (table r c own N) (i : Int) = least (firsts r c own (i * 2 ^ (c * (r - 1)))) := by
  unfold rd table
  rw [Int.toNat_natCast, List.getD_eq_getElem?_getD, List.getElem?_map, List.getElem?_range h]; rfl
/-- The loop over the table. -/
theorem tab_loop (r c : Nat) (own : Bool) (hg : GridOk (r : Int) (c : Int)) (hr : c * r ≤ 16) (hc1 : 1 ≤ c) (hc : c ≤ 5) (hr' : r ≤ 16) (h0 : 1 ≤ r) : ∀ n i k, i + n = 2 ^ c → n + r < k →
    laws_FnFirstRowsAreLinear.l1 k (r : Int) (c : Int) own ((cntB (fun last => decide (0 ≤ least (firsts r c own (last * 2 ^ (c * (r - 1)))))) i : Nat) : Int) (table r c own (2 ^ c)) ((2 ^ c : Nat) : Int) (i : Int) = some true := by
  have hp : (2 : Nat) ^ c ≤ 2 ^ 5 := Nat.pow_le_pow_right (by decide) hc
  have hlen : (table r c own (2 ^ c)).length = 2 ^ c := by simp [table]
  intro n
  induction n with
  | zero =>
    intro i k hi hk
    obtain ⟨k, rfl⟩ : ∃ m, k = m + 1 := ⟨k - 1, by omega⟩
    obtain rfl : i = 2 ^ c := by omega
    have h1 := cnt_least r c own h0
    have h2 := (cnt_rows c own r).2
    rw [laws_FnFirstRowsAreLinear.l1, if_neg (Int.lt_irrefl _), impl_Nul_f r c own h0 (by omega) hc1 (by omega)]
    simp only [bs, if_true]
    have h3 : (2 : Nat) ^ (img (rws c own r)).length ≤ 2 ^ 5 := Nat.pow_le_pow_right (by decide) (by omega)
    rw [h1, show (c : Int) - ((c - (img (rws c own r)).length : Nat) : Int) = (((img (rws c own r)).length : Nat) : Int) by omega, wrapn _ (by omega), if_pos (Int.natCast_nonneg _), shl1 _ (by omega), beq_self_eq_true]
  | succ n ih =>
    intro i k hi hk
    obtain ⟨k, rfl⟩ : ∃ m, k = m + 1 := ⟨k - 1, by omega⟩
    have hlt : i < 2 ^ c := by omega
    have ihs := ih (i + 1) k (by omega) (by omega)
    have hcl := cntB_le (fun last => decide (0 ≤ least (firsts r c own (last * 2 ^ (c * (r - 1)))))) i
    have hs : cntB (fun last => decide (0 ≤ least (firsts r c own (last * 2 ^ (c * (r - 1)))))) (i + 1) = cntB (fun last => decide (0 ≤ least (firsts r c own (last * 2 ^ (c * (r - 1)))))) i + if decide (0 ≤ least (firsts r c own (i * 2 ^ (c * (r - 1))))) = true then 1 else 0 := rfl
    have hcr : c * (r - 1) ≤ 16 := Nat.le_trans (Nat.mul_le_mul_left _ (by omega)) hr
    have hsh := shift_lt (c := c) (r := r - 1) (x := i) hlt
    rw [show r - 1 + 1 = r by omega] at hsh
    have hpr : (2 : Nat) ^ (c * r) ≤ 2 ^ 16 := Nat.pow_le_pow_right (by decide) hr
    rw [laws_FnFirstRowsAreLinear.l1, if_pos (Int.ofNat_lt.2 hlt), if_pos (Int.natCast_nonneg _), if_pos (by rw [hlen]; exact Int.ofNat_lt.2 hlt), rd_table r c own _ _ hlt, show ((i : Int) + 1) = ((i + 1 : Nat) : Int) from rfl, wrapn (i + 1) (by omega)]
    cases hf : firsts r c own (i * 2 ^ (c * (r - 1))) with
    | nil =>
      rw [hf] at hs
      rw [if_neg (show ¬ decide (0 ≤ least []) = true by decide)] at hs
      rw [if_pos (show least [] < 0 by decide), ← (show cntB _ (i + 1) = cntB _ i from hs)]
      exact ihs
    | cons f t =>
      obtain ⟨hf1, hf2⟩ := firsts_mem (rows := r) (c := c) (own := own) (L := i * 2 ^ (c * (r - 1))) (f := f) (by rw [hf]; exact List.mem_cons_self ..)
      rw [hf] at hs
      rw [if_pos (show decide (0 ≤ least (f :: t)) = true from decide_eq_true (Int.natCast_nonneg f))] at hs
      rw [if_neg (show ¬ least (f :: t) < 0 from fun h => by have : (0 : Int) ≤ least (f :: t) := Int.natCast_nonneg f; omega), show (r : Int) - 1 = ((r - 1 : Nat) : Int) by omega, wrapn _ (by omega), ← Int.natCast_mul, wrapn _ (by omega), if_pos (Int.natCast_nonneg _), shln _ _ (by omega) (by omega)]
      rw [show least (f :: t) = (f : Int) from rfl, impl_ChaseLeft_yes r c own _ f hg hr (by omega) hr' h0 hsh hf1 k (by omega), hf2]
      simp only [bs, if_true]
      rw [if_pos (show ((0 : Nat) : Int) = 0 from rfl), show ∀ z : Nat, ((z : Int) + 1) = ((z + 1 : Nat) : Int) from fun _ => rfl, wrapn _ (by omega), ← hs]
      exact ihs
theorem second {l1 : List Int} (hb : Byt l1) (k : Nat) (hk : 300000 ≤ k) : laws_FnFirstRowsAreLinear.j2 k l1 = some true := by
  obtain ⟨k, rfl⟩ : ∃ m, k = m + 1 := ⟨k - 1, by omega⟩
  obtain ⟨r, c, own, e⟩ := drawFRM_t hb
  rw [laws_FnFirstRowsAreLinear.j2]
  unfold spec_DrawLastRowTable.f
  rw [e]
  simp only [bs]
  obtain ⟨k, rfl⟩ : ∃ m, k = m + 1 := ⟨k - 1, by omega⟩
  by_cases hg : GridOk r c
  · obtain ⟨r, c, rfl, rfl, h1, h2, h3, h4, h5⟩ := grid_nat hg
    have hp : (2 : Nat) ^ c ≤ 2 ^ 16 := Nat.pow_le_pow_right (by decide) h4
    rw [impl_LastRowTable_yes r c own hg h5 h4 h2 h1 k (by omega), spec_LastRowTable_yes r c own hg h5 h4 h2 h1 k (by omega)]
    simp only [bs]
    by_cases hc : c ≤ 5
    · have hlen : (table r c own (2 ^ c)).length = 2 ^ c := by simp [table]
      have hloop := tab_loop r c own hg h5 h3 hc h2 h1 (2 ^ c) 0 (k - 0) (by omega) (by omega)
      rw [if_pos hc]
      simp only [bne_self_eq_false, Bool.false_eq_true, if_false]
      rw [hSame_self _ (by omega) _ (by omega)]
      simp only [bs, Bool.not_true]
      rw [laws_FnFirstRowsAreLinear.j3, if_neg (by decide), if_pos rfl, hlen]
      exact hloop
    · rw [if_neg hc]
      simp only [bne_self_eq_false, Bool.false_eq_true, if_false]
      rw [hSame_self _ (by decide) _ (by simp)]
      simp only [bs, Bool.not_true]
      rw [laws_FnFirstRowsAreLinear.j3, if_neg (by decide), if_neg (by decide)]
  · rw [impl_LastRowTable_no r c own hg, spec_LastRowTable_no r c own hg]
    simp only [bs, bne_self_eq_false, Bool.false_eq_true, if_false]
    rw [hSame_self _ (by decide) _ (by simp)]
    simp only [bs, Bool.not_true]
    rw [laws_FnFirstRowsAreLinear.j3, if_neg (by decide), if_neg (by decide)]
/-- The loop that adds images up. -/
theorem sum_loop {l1 : List Int} (hb : Byt l1) (r c : Nat) (own : Bool) (hg : GridOk (r : Int) (c : Int)) (hr : c * r ≤ 16) (hc : c ≤ 16) (hr' : r ≤ 16) (h0 : 1 ≤ r) (f : Nat) (hf : f < 2 ^ c) : ∀ n i k, i + n = c → n + 300000 < k →
    laws_FnFirstRowsAreLinear.l0 k l1 (r : Int) (c : Int) own (f : Int) ((mp (rws c own r) f i : Nat) : Int) (zs (fmap r c own c)) (c : Int) (i : Int) = some true := by
  have hp : (2 : Nat) ^ c ≤ 2 ^ 16 := Nat.pow_le_pow_right (by decide) hc
  have hlen : (fmap r c own c).length = c := by simp [fmap]
  intro n
  induction n with
  | zero =>
    intro i k hi hk
    obtain ⟨k, rfl⟩ : ∃ m, k = m + 1 := ⟨k - 1, by omega⟩
    obtain rfl : i = c := by omega
    rw [laws_FnFirstRowsAreLinear.l0, if_neg (Int.lt_irrefl _), show (0 : Int) = ((0 : Nat) : Int) from rfl, impl_ChaseLeft_yes r i own 0 f hg hr hc hr' h0 (Nat.two_pow_pos _) hf k (by omega)]
    simp only [bs, if_true]
    rw [mp_rws i own r hf, if_pos rfl]
    exact second hb k (by omega)
  | succ n ih =>
    intro i k hi hk
    obtain ⟨k, rfl⟩ : ∃ m, k = m + 1 := ⟨k - 1, by omega⟩
    have ihs := ih (i + 1) k (by omega) (by omega)
    have hm := mp_lt (rws_lt c own r) f i
    have hil : i < (rws c own r).length := by rw [rws_length]; omega
    have hx : (rws c own r).getD i 0 < 2 ^ c := by rw [gD_lt _ _ hil]; exact rws_lt c own r _ (List.getElem_mem hil)
    have hd : f / 2 ^ i < 2 ^ 63 := Nat.lt_of_le_of_lt (Nat.div_le_self _ _) (by omega)
    have hs : mp (rws c own r) f (i + 1) = if f.testBit i then mp (rws c own r) f i ^^^ (rws c own r).getD i 0 else mp (rws c own r) f i := rfl
    rw [laws_FnFirstRowsAreLinear.l0, if_pos (by omega), if_pos (Int.natCast_nonneg _), if_pos (by rw [zs_length, hlen]; omega), shrn f i (by omega), show ((i : Int) + 1) = ((i + 1 : Nat) : Int) from rfl, wrapn (i + 1) (by omega), rd_zs, show (fmap r c own c).getD i 0 = (rws c own r).getD i 0 from rfl]
    have e : Int.tmod ((f / 2 ^ i : Nat) : Int) 2 = ((f / 2 ^ i % 2 : Nat) : Int) := rfl
    rw [e]
    rw [Nat.testBit_eq_decide_div_mod_eq] at hs
    by_cases hb1 : f / 2 ^ i % 2 = 1
    · rw [if_pos (by omega), xorn _ _ (by omega) (by omega)]
      rw [decide_eq_true hb1, if_pos rfl] at hs
      rw [← hs]
      exact ihs
    · rw [if_neg (by omega)]
      rw [decide_eq_false hb1, if_neg (by decide)] at hs
      rw [← hs]
      exact ihs
theorem FnFirstRowsAreLinear : laws_FnFirstRowsAreLinear.Pure := by
  intro l0 l1 _ hl0 hw0 _ hl1 hw1
  have hb0 : Byt l0 := Byt.of (by omega) hw0
  have hb1 : Byt l1 := Byt.of (by omega) hw1
  obtain ⟨r, c, own, e⟩ := drawFRM_t hb0
  refine ⟨400000, ?_⟩
  unfold laws_FnFirstRowsAreLinear.f laws_big.f
  by_cases g1 : (l0.length : Int) > 1048576
  · rw [if_pos g1]
    simp only [bs, if_true]
  rw [if_neg g1, wrapi (n := 1048576 - (l0.length : Int)) (by omega) (by omega)]
  simp only [bs]
  by_cases g2 : (l1.length : Int) > 1048576 - (l0.length : Int)
  · rw [if_pos (decide_eq_true g2)]
  rw [if_neg (by rw [decide_eq_false g2]; decide), e]
  simp only [bs]
  by_cases hg : GridOk r c
  · obtain ⟨r, c, rfl, rfl, h1, h2, h3, h4, h5⟩ := grid_nat hg
    have hp : (2 : Nat) ^ c ≤ 2 ^ 16 := Nat.pow_le_pow_right (by decide) h4
    have hlen : (fmap r c own c).length = c := by simp [fmap]
    rw [impl_FirstRowMap_yes r c own hg h5 h4 h2 h1 _ (by omega), spec_FirstRowMap_yes r c own hg h5 h4 h2 h1 _ (by omega)]
    simp only [bs, bne_self_eq_false, Bool.false_eq_true, if_false]
    rw [hSame_self _ (by rw [zs_length]; omega) _ (by rw [zs_length]; omega)]
    simp only [bs, Bool.not_true]
    rw [laws_FnFirstRowsAreLinear.j0, if_neg (by decide), if_pos rfl, if_pos (Int.natCast_nonneg _), shl1 c (by omega)]
    have hpos := Nat.two_pow_pos c
    rw [if_neg (by omega)]
    have e1 : wrap64 ((l0.length : Int) * 37) = ((l0.length * 37 : Nat) : Int) := by rw [show (l0.length : Int) * 37 = ((l0.length * 37 : Nat) : Int) from rfl, wrapn _ (by omega)]
    rw [e1, show Int.tmod ((l0.length * 37 : Nat) : Int) ((2 ^ c : Nat) : Int) = ((l0.length * 37 % 2 ^ c : Nat) : Int) from rfl, show (l1.length : Int) % ((2 ^ c : Nat) : Int) = ((l1.length % 2 ^ c : Nat) : Int) from rfl]
    have m1 := Nat.mod_lt (l0.length * 37) hpos
    have m2 := Nat.mod_lt l1.length hpos
    rw [xorn _ _ (by omega) (by omega), zs_length, hlen]
    exact sum_loop hb1 r c own hg h5 h4 h2 h1 _ (Nat.xor_lt_two_pow m1 m2) c 0 _ (by omega) (by omega)
  · rw [impl_FirstRowMap_no r c own hg, spec_FirstRowMap_no r c own hg]
    simp only [bs, bne_self_eq_false, Bool.false_eq_true, if_false]
    rw [hSame_self _ (by decide) _ (by simp)]
    simp only [bs, Bool.not_true]
    rw [laws_FnFirstRowsAreLinear.j0, if_neg (by decide), if_neg (by decide)]
    exact second hb1 _ (by omega)
end Go.Proofs.Ytgnjndkbccakgaa.Pure
