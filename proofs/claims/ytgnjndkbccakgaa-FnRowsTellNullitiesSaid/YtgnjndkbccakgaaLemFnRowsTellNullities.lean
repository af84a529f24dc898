/- Lemmas on the printed functions of FnRowsTellNullities: what loops and calls come to, at natural numbers in range. -/
import Derived.Test.YtgnjndkbccakgaaPFnRowsTellNullitiesx
import Derived.Test.YtgnjndkbccakgaaBit
import Derived.Test.YtgnjndkbccakgaaGra2
import Derived.Test.YtgnjndkbccakgaaPop
import Derived.Test.YtgnjndkbccakgaaGrd
import Derived.Test.YtgnjndkbccakgaaExq
import Derived.Test.YtgnjndkbccakgaaCha
import Derived.Test.YtgnjndkbccakgaaQui
import Derived.Test.YtgnjndkbccakgaaNul
import Derived.Test.YtgnjndkbccakgaaPer
namespace Go.Proofs.Ytgnjndkbccakgaa.LemFnRowsTellNullities
open Go.RowKit Go.Proofs.Ytgnjndkbccakgaa.PFnRowsTellNullities Go.Proofs.YtgnjndkbccakgaaW.PrintWords Go.Proofs.YtgnjndkbccakgaaW.PrintLast Go.Proofs.Ytgnjndkbccakgaa.Bit Go.Proofs.Ytgnjndkbccakgaa.Row Go.Proofs.Ytgnjndkbccakgaa.Lin Go.Proofs.Ytgnjndkbccakgaa.Gra Go.Proofs.Ytgnjndkbccakgaa.Pop Go.Proofs.Ytgnjndkbccakgaa.Ker Go.Proofs.Ytgnjndkbccakgaa.Cnt

theorem whole_f (c : Nat) (h : c < 63) : impl_whole.f (c : Int) = some ((2 ^ c - 1 : Nat) : Int) := by
  unfold impl_whole.f
  rw [if_pos (Int.natCast_nonneg _), wholen c h]
theorem in_f (a b c : Int) : impl_in.f a b c = some (decide (b ≤ a ∧ a ≤ c)) := by
  unfold impl_in.f
  split
  · rename_i h; simp [h]
  · rename_i h; simp [h]
theorem l1In_f (a b c : Int) : spec_l1In.f a b c = some (decide (b ≤ a ∧ a ≤ c)) := by
  unfold spec_l1In.f
  split
  · rename_i h; simp [show b ≤ a from h]
  · rename_i h; simp [show ¬ b ≤ a from h]
theorem csToggles_f (c : Nat) (hc : c ≤ 16) (own : Bool) (row : Nat) (h : row < 2 ^ c) : spec_csToggles.f (c : Int) own (row : Int) = some ((tog c own row : Nat) : Int) := by
  have hp : (2 : Nat) ^ c ≤ 2 ^ 16 := Nat.pow_le_pow_right (by decide) hc
  have h1 : row < 2 ^ 16 := by omega
  have h2 : row * 2 ^^^ row / 2 < 2 ^ 63 := Nat.xor_lt_two_pow (by omega) (by omega)
  have h3 : row * 2 ^^^ row / 2 ^^^ row < 2 ^ 63 := Nat.xor_lt_two_pow h2 (by omega)
  have h4 := wholen c (by omega)
  unfold spec_csToggles.f
  rw [if_pos (Int.natCast_nonneg _), if_pos (Int.natCast_nonneg _), h4, twice row (by omega), half, xorn _ _ (by omega) (by omega), xorn _ _ h2 (by omega), andn _ _ h3 (by omega), andn _ _ h2 (by omega), tog_own h, tog_not]
  cases own <;> rfl
theorem rowToggles_f (c : Nat) (hc : c ≤ 16) (own : Bool) (row : Nat) (h : row < 2 ^ c) : impl_rowToggles.f (c : Int) own (row : Int) = some ((tog c own row : Nat) : Int) := by
  have hp : (2 : Nat) ^ c ≤ 2 ^ 16 := Nat.pow_le_pow_right (by decide) hc
  have h1 : row < 2 ^ 16 := by omega
  have h2 : row * 2 ^^^ row / 2 < 2 ^ 63 := Nat.xor_lt_two_pow (by omega) (by omega)
  have h3 : (row * 2 ^^^ row / 2) &&& (2 ^ c - 1) < 2 ^ 63 := Nat.lt_of_lt_of_le (mask_lt _ _) (by omega)
  unfold impl_rowToggles.f
  rw [whole_f c (by omega), twice row (by omega), half, xorn _ _ (by omega) (by omega)]
  simp only [bs]
  rw [andn _ _ h2 (by omega), xorn _ _ h3 (by omega)]
  unfold tog
  cases own <;> simp
theorem csWide_f (c row : Int) : spec_csWide.f c row = some (decide (1 ≤ c ∧ c ≤ 8) && decide (0 ≤ row ∧ row ≤ ((2 ^ c.toNat - 1 : Nat) : Int))) := by
  unfold spec_csWide.f
  rw [l1In_f]
  simp only [bs]
  by_cases h : 1 ≤ c ∧ c ≤ 8
  · obtain ⟨c, rfl⟩ := Int.eq_ofNat_of_zero_le (show 0 ≤ c by omega)
    rw [decide_eq_true h, if_pos rfl, if_pos (by omega), wholen c (by omega), l1In_f, Int.toNat_natCast, Bool.true_and]; rfl
  · rw [decide_eq_false h, if_neg (by decide), Bool.false_and]
theorem isWide_one (c row : Int) : impl_isWide.f c [row] = some (decide (1 ≤ c ∧ c ≤ 8) && decide (0 ≤ row ∧ row ≤ ((2 ^ c.toNat - 1 : Nat) : Int))) := by
  unfold impl_isWide.f noRow
  simp [List.any]
theorem isWide_none (c : Int) : impl_isWide.f c [] = some (decide (1 ≤ c ∧ c ≤ 8)) := by
  unfold impl_isWide.f
  simp
theorem cr_next (c : Nat) (own : Bool) (f i : Nat) : cr c own 0 f (i + 1) = ((cr c own 0 f i).2, tog c own (cr c own 0 f i).2 ^^^ (cr c own 0 f i).1) := by
  rw [cr]
  unfold rowOf
  rw [Nat.zero_div, Nat.zero_and, Nat.zero_xor, Nat.xor_comm]
theorem csBehind_l (c : Nat) (hc : c ≤ 16) (own : Bool) (f : Nat) (hf : f < 2 ^ c) : ∀ n i k, n < k → n < 2 ^ 40 → spec_csBehind.l0 k (c : Int) own (n : Int) ((cr c own 0 f i).1 : Nat) ((cr c own 0 f i).2 : Nat) = some (((cr c own 0 f (i + n)).2 : Nat) : Int) := by
  have hp : (2 : Nat) ^ c ≤ 2 ^ 16 := Nat.pow_le_pow_right (by decide) hc
  intro n
  induction n with
  | zero =>
    intro i k hk _
    obtain ⟨k, rfl⟩ : ∃ m, k = m + 1 := ⟨k - 1, by omega⟩
    rw [spec_csBehind.l0, if_neg (by omega)]; rfl
  | succ n ih =>
    intro i k hk hn
    obtain ⟨k, rfl⟩ : ∃ m, k = m + 1 := ⟨k - 1, by omega⟩
    obtain ⟨b1, b2⟩ := cr_lt own 0 hf i
    have b3 := tog_lt own b2
    have e := ih (i + 1) k (by omega) (by omega)
    rw [spec_csBehind.l0, if_pos (by omega), csToggles_f c hc own _ b2]
    simp only [bs]
    rw [xorn _ _ (by omega) (by omega), show ((n + 1 : Nat) : Int) - 1 = ((n : Nat) : Int) by omega, wrapn n (by omega)]
    rw [cr_next] at e
    rw [e, show i + 1 + n = i + (n + 1) by omega]
theorem csBehind_f (c : Nat) (hc : c ≤ 16) (own : Bool) (f : Nat) (hf : f < 2 ^ c) (n k : Nat) (hk : n < k) (hn : n < 2 ^ 40) : spec_csBehind.f k (c : Int) own (f : Int) (n : Int) = some (((cr c own 0 f n).2 : Nat) : Int) := by
  unfold spec_csBehind.f
  have := csBehind_l c hc own f hf n 0 k hk hn
  rwa [Nat.zero_add] at this
theorem rowBehind_f (c : Nat) (hc : c ≤ 16) (own : Bool) (f : Nat) (hf : f < 2 ^ c) (n : Nat) (hn : n ≤ 1000) : impl_rowBehind.f (c : Int) own (f : Int) (n : Int) = some (((cr c own 0 f n).2 : Nat) : Int) := by
  have hok : rbOk (c : Int) (f : Int) (n : Int) = true := by
    unfold rbOk
    simp only [Bool.and_eq_true, decide_eq_true_eq, Int.toNat_natCast]
    omega
  unfold impl_rowBehind.f
  rw [if_pos hok]
  simp only [Int.toNat_natCast]
theorem spec_period_l (c : Nat) (hc : c ≤ 6) (own : Bool) (f : Nat) (hf : f < 2 ^ c) (h0 : f ≠ 0) : ∀ n i k, i + 1 + n = per c own f → n < k → spec_RowPeriod.l0 k (c : Int) own (f : Int) ((cr c own 0 f i).1 : Nat) ((cr c own 0 f i).2 : Nat) ((i + 1 : Nat) : Int) = some (((per c own f : Nat) : Int), true) := by
  obtain ⟨p1, p2, p3, p4⟩ := per_is c hc own f hf h0
  have hp : (2 : Nat) ^ c ≤ 2 ^ 6 := Nat.pow_le_pow_right (by decide) hc
  intro n
  induction n with
  | zero =>
    intro i k hi hk
    obtain ⟨k, rfl⟩ : ∃ m, k = m + 1 := ⟨k - 1, by omega⟩
    obtain ⟨b1, b2⟩ := cr_lt own 0 hf i
    have b3 := tog_lt own b2
    have e := p3
    rw [← hi, Nat.add_zero, cr_step, Prod.mk.injEq] at e
    rw [spec_RowPeriod.l0, csToggles_f c (by omega) own _ b2]
    simp only [bs]
    rw [xorn _ _ (by omega) (by omega), e.2, if_pos (by rw [e.1]; rfl), if_pos rfl, show i + 1 = per c own f by omega]
  | succ n ih =>
    intro i k hi hk
    obtain ⟨k, rfl⟩ : ∃ m, k = m + 1 := ⟨k - 1, by omega⟩
    obtain ⟨b1, b2⟩ := cr_lt own 0 hf i
    have b3 := tog_lt own b2
    have e := ih (i + 1) k (by omega) (by omega)
    have hn := p4 (i + 1) (by omega) (by omega)
    rw [cr_step] at e hn
    rw [spec_RowPeriod.l0, csToggles_f c (by omega) own _ b2]
    simp only [bs]
    rw [xorn _ _ (by omega) (by omega), show ((i + 1 : Nat) : Int) + 1 = ((i + 1 + 1 : Nat) : Int) from rfl, wrapn _ (by omega)]
    by_cases h1 : (((cr c own 0 f i).2 : Nat) : Int) = 0
    · by_cases h2 : (((tog c own (cr c own 0 f i).2 ^^^ (cr c own 0 f i).1 : Nat)) : Int) = (f : Int)
      · exact absurd ⟨by show (cr c own 0 f i).2 = 0; omega, by show tog c own (cr c own 0 f i).2 ^^^ (cr c own 0 f i).1 = f; omega⟩ hn
      · rw [if_pos h1, if_neg h2]; exact e
    · rw [if_neg h1]; exact e
theorem csNul_l1 (d : Nat) (hd : d ≤ 16) : ∀ n i k, i + n = d → n < k → spec_csNullity.l1 k ((2 ^ d : Nat) : Int) (i : Int) = some (d : Int) := by
  intro n
  induction n with
  | zero =>
    intro i k hi hk
    obtain ⟨k, rfl⟩ : ∃ m, k = m + 1 := ⟨k - 1, by omega⟩
    obtain rfl : i = d := by omega
    rw [spec_csNullity.l1, if_pos (Int.natCast_nonneg _), shl1 i (by omega), if_neg (Int.lt_irrefl _)]
  | succ n ih =>
    intro i k hi hk
    obtain ⟨k, rfl⟩ : ∃ m, k = m + 1 := ⟨k - 1, by omega⟩
    have h1 : (2 : Nat) ^ i < 2 ^ d := Nat.pow_lt_pow_right (by decide) (by omega)
    rw [spec_csNullity.l1, if_pos (Int.natCast_nonneg _), shl1 i (by omega), if_pos (Int.ofNat_lt.2 h1), show ((i : Int) + 1) = ((i + 1 : Nat) : Int) from rfl, wrapn _ (by omega)]
    exact ih (i + 1) k (by omega) (by omega)
theorem csNul_l0 (c : Nat) (hc : c ≤ 16) (own : Bool) (rows : Nat) (hr : rows ≤ 1000) : ∀ n i k, i + n = 2 ^ c → n + 1100 < k →
    spec_csNullity.l0 k (rows : Int) (c : Int) own ((cntB (fun x => (cr c own 0 x rows).2 == 0) i : Nat) : Int) (i : Int) = some (((c - (img (rws c own rows)).length : Nat)) : Int) := by
  have hp : (2 : Nat) ^ c ≤ 2 ^ 16 := Nat.pow_le_pow_right (by decide) hc
  intro n
  induction n with
  | zero =>
    intro i k hi hk
    obtain ⟨k, rfl⟩ : ∃ m, k = m + 1 := ⟨k - 1, by omega⟩
    obtain ⟨h1, h2⟩ := cnt_rows c own rows
    obtain rfl : i = 2 ^ c := hi
    rw [spec_csNullity.l0, if_pos (Int.natCast_nonneg _), shl1 c (by omega), if_neg (Int.lt_irrefl _), h1]
    exact csNul_l1 _ (by omega) (c - (img (rws c own rows)).length) 0 k (by omega) (by omega)
  | succ n ih =>
    intro i k hi hk
    obtain ⟨k, rfl⟩ : ∃ m, k = m + 1 := ⟨k - 1, by omega⟩
    have hlt : i < 2 ^ c := by omega
    have hcl : ∀ j, cntB (fun x => (cr c own 0 x rows).2 == 0) j ≤ j := fun j => by
      induction j with
      | zero => exact Nat.le_refl _
      | succ j ihj =>
        show _ + _ ≤ _
        split <;> omega
    have hcli := hcl i
    have hs : cntB (fun x => (cr c own 0 x rows).2 == 0) (i + 1) = cntB (fun x => (cr c own 0 x rows).2 == 0) i + if ((cr c own 0 i rows).2 == 0) = true then 1 else 0 := rfl
    have ihs := ih (i + 1) k (by omega) (by omega)
    rw [spec_csNullity.l0, if_pos (Int.natCast_nonneg _), shl1 c (by omega), if_pos (Int.ofNat_lt.2 hlt), csBehind_f c hc own i hlt rows k (by omega) (by omega)]
    simp only [bs]
    rw [show ((i : Int) + 1) = ((i + 1 : Nat) : Int) from rfl, wrapn (i + 1) (by omega)]
    by_cases h0 : (cr c own 0 i rows).2 = 0
    · rw [if_pos (by omega), show ((cntB (fun x => (cr c own 0 x rows).2 == 0) i : Nat) : Int) + 1 = ((cntB (fun x => (cr c own 0 x rows).2 == 0) i + 1 : Nat) : Int) from rfl, wrapn _ (by omega)]
      rw [hs, if_pos (by simpa using h0)] at ihs
      exact ihs
    · rw [if_neg (by omega)]
      rw [hs, if_neg (by simpa using h0), Nat.add_zero] at ihs
      exact ihs
theorem csNul_f (c : Nat) (hc : c ≤ 16) (own : Bool) (rows : Nat) (hr : rows ≤ 1000) (k : Nat) (hk : 2 ^ c + 1100 < k) : spec_csNullity.f k (rows : Int) (c : Int) own = some (((c - (img (rws c own rows)).length : Nat)) : Int) := by
  unfold spec_csNullity.f
  exact csNul_l0 c hc own rows hr (2 ^ c) 0 k (by omega) hk
theorem bits255 (X : Int) : ∃ n : Nat, n ≤ 255 ∧ wrap64 (Go.bits .and .u64 (IntKind.u64.wrap X / 1099511627776) 255) = (n : Int) := by
  have h : 0 ≤ IntKind.u64.wrap X ∧ IntKind.u64.wrap X < 18446744073709551616 := by rw [IntKind.wrap_u64]; omega
  obtain ⟨m, hm⟩ := Int.eq_ofNat_of_zero_le h.1
  rw [hm] at h ⊢
  have hq : ((m : Int) / 1099511627776) = ((m / 1099511627776 : Nat) : Int) := rfl
  rw [hq, show (255 : Int) = ((255 : Nat) : Int) from rfl, andu _ _ (by omega) (by decide)]
  have h2 : m / 1099511627776 &&& 255 ≤ 255 := Nat.and_le_right
  exact ⟨_, h2, wrapn _ (by omega)⟩
/-- Bytes that came in. -/
def Byt (l : List Int) : Prop := l.length ≤ 140737488355328 ∧ ∀ x ∈ l, 0 ≤ x ∧ x ≤ 255
theorem Byt.of {l : List Int} (h1 : l.length ≤ 140737488355328) (h : ∀ x ∈ l, (Lit.int .u8 x).wf = true) : Byt l := ⟨h1, fun x hx => by
  have h2 : IntKind.u8.min ≤ x ∧ x ≤ IntKind.u8.max := by
    have := h x hx
    simpa [Lit.wf] using this
  exact h2⟩
theorem mod_le {x m : Int} (h : 0 ≤ x) (hm : 0 < m) : x % m ≤ x := by
  rcases Int.lt_or_le x m with h1 | h1
  · rw [Int.emod_eq_of_lt h h1]; exact Int.le_refl _
  · have := Int.emod_lt_of_pos x hm; omega
theorem next_t {l : List Int} (hb : Byt l) (at_ sd : Int) (n : Nat) (h0 : 0 ≤ at_) (h1 : at_ ≤ n) (hn : n ≤ 1000) :
    ∃ x a s, spec_l1Cur_next.f l at_ sd = some (x, a, s) ∧ 0 ≤ a ∧ a ≤ ((n + 1 : Nat) : Int) ∧ 0 ≤ x ∧ x ≤ 255 := by
  have hl := hb.1
  have e1 : wrap64 (at_ + 1) = at_ + 1 := wrapi (by omega) (by omega)
  unfold spec_l1Cur_next.f
  by_cases c1 : at_ < (l.length : Int)
  · rw [if_pos c1, if_pos h0, e1, if_pos (by omega)]
    obtain ⟨i, rfl⟩ := Int.eq_ofNat_of_zero_le h0
    have hi : i < l.length := by omega
    have e : rd l (i : Int) = l[i] := by
      unfold rd
      rw [Int.toNat_natCast, List.getD_eq_getElem?_getD, List.getElem?_eq_getElem hi]; rfl
    have hx := hb.2 _ (List.getElem_mem hi)
    have e2 : wrap64 (rd l (i : Int)) = l[i] := by rw [e]; exact wrapi hx.1 (by omega)
    rw [e2]
    exact ⟨_, _, _, rfl, by omega, by omega, hx.1, hx.2⟩
  · rw [if_neg c1, e1]
    by_cases c2 : at_ + 1 ≤ (l.length : Int)
    · exact absurd c2 (by omega)
    · rw [if_neg c2]
      obtain ⟨m, hm, e⟩ := bits255 ((IntKind.u64.wrap (IntKind.u64.wrap (sd * 6364136223846793005))) + 1442695040888963407)
      rw [e]
      exact ⟨_, _, _, rfl, by omega, by omega, by omega, by omega⟩
theorem pick_t {l : List Int} (hb : Byt l) (at_ sd m : Int) (n : Nat) (h0 : 0 ≤ at_) (h1 : at_ ≤ n) (hn : n ≤ 900) :
    ∃ x a s, spec_l1Cur_pick.f l at_ sd m = some (x, a, s) ∧ 0 ≤ a ∧ a ≤ ((n + 2 : Nat) : Int) ∧ 0 ≤ x ∧ (1 ≤ m → x < m) ∧ x ≤ 65535 := by
  unfold spec_l1Cur_pick.f
  by_cases c1 : m ≤ 1
  · rw [if_pos c1]
    exact ⟨_, _, _, rfl, h0, by omega, by omega, fun h => by omega, by omega⟩
  · rw [if_neg c1]
    obtain ⟨x, a, s, e, ha, ha2, hx, hx2⟩ := next_t hb at_ sd n h0 h1 (by omega)
    rw [e]
    simp only [bs]
    by_cases c2 : m > 200
    · rw [if_pos c2]
      obtain ⟨y, a', s', e', ha', ha2', hy, hy2⟩ := next_t hb a s (n + 1) ha ha2 (by omega)
      rw [e']
      simp only [bs]
      rw [if_neg (by omega), wrapi (n := x * 256) (by omega) (by omega), wrapi (by omega) (by omega)]
      have h3 : Int.tmod (x * 256 + y) m = (x * 256 + y) % m := Int.tmod_eq_emod_of_nonneg (by omega)
      have h4 := Int.emod_nonneg (x * 256 + y) (show m ≠ 0 by omega)
      have h5 := Int.emod_lt_of_pos (x * 256 + y) (show 0 < m by omega)
      have h6 : (x * 256 + y) % m ≤ x * 256 + y := mod_le (by omega) (by omega)
      rw [h3]
      exact ⟨_, _, _, rfl, ha', ha2', h4, fun _ => h5, by omega⟩
    · rw [if_neg c2, if_neg (by omega)]
      have h3 : Int.tmod x m = x % m := Int.tmod_eq_emod_of_nonneg (by omega)
      have h4 := Int.emod_nonneg x (show m ≠ 0 by omega)
      have h5 := Int.emod_lt_of_pos x (show 0 < m by omega)
      have h6 : x % m ≤ x := mod_le (by omega) (by omega)
      rw [h3]
      exact ⟨_, _, _, rfl, ha, by omega, h4, fun _ => h5, by omega⟩
theorem among_t {l : List Int} (hb : Byt l) (at_ sd : Int) (xs : List Int) (hx : 1 ≤ xs.length) (n : Nat) (h0 : 0 ≤ at_) (h1 : at_ ≤ n) (hn : n ≤ 900) :
    ∃ x a s, spec_l1Cur_among.f l at_ sd xs = some (x, a, s) ∧ 0 ≤ a ∧ a ≤ ((n + 2 : Nat) : Int) ∧ x ∈ xs := by
  obtain ⟨i, a, s, e, ha, ha2, hi, hi2, _⟩ := pick_t hb at_ sd (xs.length : Int) n h0 h1 hn
  have hi3 := hi2 (by omega)
  unfold spec_l1Cur_among.f
  rw [e]
  simp only [bs]
  rw [if_pos hi, if_pos hi3]
  refine ⟨_, _, _, rfl, ha, ha2, ?_⟩
  obtain ⟨i, rfl⟩ := Int.eq_ofNat_of_zero_le hi
  unfold rd
  rw [Int.toNat_natCast, List.getD_eq_getElem?_getD, List.getElem?_eq_getElem (show i < xs.length by omega)]
  exact List.getElem_mem _
theorem one_t {l : List Int} (hb : Byt l) (at_ sd m : Int) (n : Nat) (h0 : 0 ≤ at_) (h1 : at_ ≤ n) (hn : n ≤ 900) :
    ∃ x a s, spec_l1Cur_one.f l at_ sd m = some (x, a, s) ∧ 0 ≤ a ∧ a ≤ ((n + 2 : Nat) : Int) := by
  obtain ⟨i, a, s, e, ha, ha2, _⟩ := pick_t hb at_ sd m n h0 h1 hn
  unfold spec_l1Cur_one.f
  rw [e]
  exact ⟨_, _, _, rfl, ha, ha2⟩
theorem hSame_l (l : List Int) (hl : l.length < 2 ^ 62) : ∀ n i k, i + n = l.length → n < k → laws_hSame.l0 k l l (l.length : Int) (i : Int) = some true := by
  intro n
  induction n with
  | zero =>
    intro i k hi hk
    obtain ⟨k, rfl⟩ : ∃ m, k = m + 1 := ⟨k - 1, by omega⟩
    rw [laws_hSame.l0, if_neg (by omega)]
  | succ n ih =>
    intro i k hi hk
    obtain ⟨k, rfl⟩ : ∃ m, k = m + 1 := ⟨k - 1, by omega⟩
    rw [laws_hSame.l0, if_pos (by omega), if_pos (by omega), if_pos (by omega), if_pos (by omega), if_pos rfl, show ((i : Int) + 1) = ((i + 1 : Nat) : Int) from rfl, wrapn _ (by omega)]
    exact ih (i + 1) k (by omega) (by omega)
theorem hSame_self (l : List Int) (hl : l.length < 2 ^ 62) (k : Nat) (hk : l.length < k) : laws_hSame.f k l l = some true := by
  unfold laws_hSame.f
  rw [if_pos rfl]
  exact hSame_l l hl l.length 0 k (by omega) hk
theorem impl_Nul_f (r c : Nat) (own : Bool) (h0 : 1 ≤ r) (hr : r ≤ 200) (hc0 : 1 ≤ c) (hc : c ≤ 8) : impl_NullityByRows.f (r : Int) (c : Int) own = some (((c - (Ker.img (Cnt.rws c own r)).length : Nat) : Int), true) := by
  unfold impl_NullityByRows.f
  rw [isWide_none, decide_eq_true (show (1 : Int) ≤ (c : Int) ∧ (c : Int) ≤ 8 by omega)]
  simp only [bs, if_true]
  rw [in_f, decide_eq_true (show (1 : Int) ≤ (r : Int) ∧ (r : Int) ≤ 200 by omega)]
  simp only [bs, if_true]
  unfold impl_nullityByRows.f nrOk
  rw [decide_eq_true (show (0 : Int) ≤ (r : Int) ∧ (r : Int) ≤ 1000 by omega), decide_eq_true (show (0 : Int) ≤ (c : Int) ∧ (c : Int) ≤ 16 by omega), Bool.and_self, if_pos rfl]
  simp only [bs, Int.toNat_natCast]
theorem gridG_fin : ∀ r c : Fin 17, ∀ own : Bool, 1 ≤ r.val → 1 ≤ c.val → r.val * c.val ≤ 16 → impl_GridGraph.f 120 (r.val : Int) (c.val : Int) own = some (zs (Grd.gridL r.val c.val), own, true) := by decide +kernel
theorem gridG_good : ∀ r c : Fin 17, 1 ≤ r.val → 1 ≤ c.val → r.val * c.val ≤ 16 → goodB (zs (Grd.gridL r.val c.val)) = true := by decide +kernel
theorem gridG_f (r c : Nat) (own : Bool) (hr0 : 1 ≤ r) (hr : r ≤ 16) (hc0 : 1 ≤ c) (hc : c ≤ 16) (h : c * r ≤ 16) (k : Nat) (hk : 120 ≤ k) : impl_GridGraph.f k (r : Int) (c : Int) own = some (zs (Grd.gridL r c), own, true) := by
  have h0 := gridG_fin ⟨r, by omega⟩ ⟨c, by omega⟩ own hr0 hc0 (by show r * c ≤ 16; rw [Nat.mul_comm]; exact h)
  obtain ⟨d, rfl⟩ := Nat.exists_eq_add_of_le hk
  have hd : ∀ d, impl_GridGraph.f (120 + d) (r : Int) (c : Int) own = some (zs (Grd.gridL r c), own, true) := fun d => by
    induction d with
    | zero => exact h0
    | succ d ih => exact impl_GridGraph.mono _ _ _ _ _ ih
  exact hd d
theorem gridG_g (r c : Nat) (hr0 : 1 ≤ r) (hr : r ≤ 16) (hc0 : 1 ≤ c) (hc : c ≤ 16) (h : c * r ≤ 16) : goodB (zs (Grd.gridL r c)) = true :=
  gridG_good ⟨r, by omega⟩ ⟨c, by omega⟩ hr0 hc0 (by show r * c ≤ 16; rw [Nat.mul_comm]; exact h)
theorem wide_t {l : List Int} (hb : Byt l) (at_ sd : Int) (n : Nat) (h0 : 0 ≤ at_) (h1 : at_ ≤ n) (hn : n ≤ 600) :
    ∃ x y a s, spec_l1Cur_wide.f l at_ sd = some (x, y, a, s) ∧ 0 ≤ a ∧ a ≤ ((n + 10 : Nat) : Int) := by
  unfold spec_l1Cur_wide.f
  obtain ⟨x, a, s, e, ha, ha2, hx⟩ := among_t hb at_ sd [1, 2, 3, 4, 5, 6, 8, 9, 0] (by decide) n h0 h1 (by omega)
  have hx0 : 0 ≤ x := by simp at hx; omega
  rw [e]
  simp only [bs]
  obtain ⟨y, a', s', e', ha', ha2'⟩ := one_t hb a s 12 (n + 2) ha ha2 (by omega)
  rw [e']
  simp only [bs]
  by_cases hy : y = true
  · rw [if_pos hy]
    obtain ⟨z, a'', s'', e'', ha'', ha2'', _⟩ := among_t hb a' s' [(-1), 0, 512, 4611686018427387904] (by decide) (n + 4) ha' ha2' (by omega)
    rw [e'']
    simp only [bs]
    exact ⟨_, _, _, _, rfl, ha'', by omega⟩
  · rw [if_neg hy]
    obtain ⟨t, ht, ht2⟩ : ∃ t, spec_l1Least.f x 8 = some t ∧ 0 ≤ t := by
      unfold spec_l1Least.f
      split
      · exact ⟨_, rfl, hx0⟩
      · exact ⟨_, rfl, by omega⟩
    rw [ht]
    simp only [bs]
    rw [if_pos ht2]
    obtain ⟨z, a'', s'', e'', ha'', ha2'', _⟩ := pick_t hb a' s' (shl .i64 1 t) (n + 4) ha' ha2' (by omega)
    rw [e'']
    simp only [bs]
    exact ⟨_, _, _, _, rfl, ha'', by omega⟩
theorem drawNBR_t {l : List Int} (hb : Byt l) : ∃ r c own, spec_DrawNullityByRows.f l = some (r, c, own) := by
  unfold spec_DrawNullityByRows.f
  obtain ⟨x, a, s, e, ha, ha2, _⟩ := among_t hb 0 0 [1, 2, 3, 4, 5, 11, 50, 200, 201, 0] (by decide) 0 (by omega) (by omega) (by omega)
  rw [e]
  simp only [bs]
  obtain ⟨y, a', s', e', ha', ha2', _⟩ := among_t hb a s [1, 2, 3, 4, 5, 5, 8, 9, 0] (by decide) 2 ha ha2 (by omega)
  rw [e']
  simp only [bs]
  obtain ⟨z, a'', s'', e'', _⟩ := one_t hb a' s' 3 4 ha' ha2' (by omega)
  rw [e'']
  exact ⟨_, _, _, rfl⟩
theorem drawRP_t {l : List Int} (hb : Byt l) : ∃ c own f, spec_DrawRowPeriod.f l = some (c, own, f) := by
  unfold spec_DrawRowPeriod.f
  obtain ⟨x, y, a, s, e, ha, ha2⟩ := wide_t hb 0 0 0 (by omega) (by omega) (by omega)
  rw [e]
  simp only [bs]
  obtain ⟨z, a'', s'', e'', _⟩ := one_t hb a s 3 10 ha ha2 (by omega)
  rw [e'']
  exact ⟨_, _, _, rfl⟩
theorem drawQR_t {l : List Int} (hb : Byt l) : ∃ c own f m, spec_DrawQuietRows.f l = some (c, own, f, m) := by
  unfold spec_DrawQuietRows.f
  obtain ⟨x, y, a, s, e, ha, ha2⟩ := wide_t hb 0 0 0 (by omega) (by omega) (by omega)
  rw [e]
  simp only [bs]
  obtain ⟨z, a', s', e', ha', ha2'⟩ := one_t hb a s 3 10 ha ha2 (by omega)
  rw [e']
  simp only [bs]
  obtain ⟨u, a'', s'', e'', _⟩ := among_t hb a' s' [0, 1, 10, 40, 200, 201, (-1)] (by decide) 12 ha' ha2' (by omega)
  rw [e'']
  exact ⟨_, _, _, _, rfl⟩
theorem drawRB_t {l : List Int} (hb : Byt l) : ∃ c own f m, spec_DrawRowBehind.f l = some (c, own, f, m) := by
  unfold spec_DrawRowBehind.f
  obtain ⟨x, y, a, s, e, ha, ha2⟩ := wide_t hb 0 0 0 (by omega) (by omega) (by omega)
  rw [e]
  simp only [bs]
  obtain ⟨z, a', s', e', ha', ha2'⟩ := one_t hb a s 3 10 ha ha2 (by omega)
  rw [e']
  simp only [bs]
  obtain ⟨u, a'', s'', e'', _⟩ := among_t hb a' s' [0, 1, 2, 5, 30, 200, 201, (-1)] (by decide) 12 ha' ha2' (by omega)
  rw [e'']
  exact ⟨_, _, _, _, rfl⟩
theorem drawNuB_t {l : List Int} (hb : Byt l) : ∃ c own m, spec_DrawNullitiesByRows.f l = some (c, own, m) := by
  unfold spec_DrawNullitiesByRows.f
  obtain ⟨x, a, s, e, ha, ha2, _⟩ := among_t hb 0 0 [1, 2, 3, 4, 5, 9, 0] (by decide) 0 (by omega) (by omega) (by omega)
  rw [e]
  simp only [bs]
  obtain ⟨z, a', s', e', ha', ha2'⟩ := one_t hb a s 3 2 ha ha2 (by omega)
  rw [e']
  simp only [bs]
  obtain ⟨u, a'', s'', e'', _⟩ := among_t hb a' s' [0, 1, 5, 20, 201, (-1)] (by decide) 4 ha' ha2' (by omega)
  rw [e'']
  exact ⟨_, _, _, rfl⟩
theorem inul2 (c rows : Nat) (own : Bool) (hc : c ≤ 16) (hr : rows ≤ 1000) : impl_nullityByRows.f (rows : Int) (c : Int) own = some ((c - (img (rws c own rows)).length : Nat) : Int) := by
  have : nrOk (rows : Int) (c : Int) = true := by unfold nrOk; rw [Bool.and_eq_true, decide_eq_true_eq, decide_eq_true_eq]; omega
  unfold impl_nullityByRows.f
  rw [if_pos this]
  simp only [Int.toNat_natCast]
theorem wide_z (c : Int) : (decide (1 ≤ c ∧ c ≤ 8) && decide (0 ≤ (0 : Int) ∧ (0 : Int) ≤ ((2 ^ c.toNat - 1 : Nat) : Int))) = decide (1 ≤ c ∧ c ≤ 8) := by
  rw [decide_eq_true (p := 0 ≤ (0 : Int) ∧ (0 : Int) ≤ _) ⟨Int.le_refl _, Int.natCast_nonneg _⟩, Bool.and_true]
theorem nul_all (r c : Int) (own : Bool) (k : Nat) (hk : 2000 ≤ k) :
    (impl_NullityByRows.f r c own = some (0, false) ∧ spec_NullityByRows.f k r c own = some (0, false)) ∨
    ∃ r' c' : Nat, r = (r' : Int) ∧ c = (c' : Int) ∧ 1 ≤ r' ∧ r' ≤ 200 ∧ 1 ≤ c' ∧ c' ≤ 8 ∧
      impl_NullityByRows.f r c own = some (((c' - (img (rws c' own r')).length : Nat) : Int), true) ∧ spec_NullityByRows.f k r c own = some (((c' - (img (rws c' own r')).length : Nat) : Int), true) := by
  unfold impl_NullityByRows.f spec_NullityByRows.f
  rw [csWide_f, isWide_none, wide_z]
  simp only [bs]
  by_cases hc : 1 ≤ c ∧ c ≤ 8
  · rw [decide_eq_true hc]
    simp only [if_true]
    rw [l1In_f, in_f]
    simp only [bs]
    by_cases hr : 1 ≤ r ∧ r ≤ 200
    · obtain ⟨c, rfl⟩ := Int.eq_ofNat_of_zero_le (show 0 ≤ c by omega)
      obtain ⟨r, rfl⟩ := Int.eq_ofNat_of_zero_le (show 0 ≤ r by omega)
      have hp : (2 : Nat) ^ c ≤ 2 ^ 8 := Nat.pow_le_pow_right (by decide) (by omega)
      rw [decide_eq_true hr]
      simp only [if_true]
      rw [csNul_f c (by omega) own r (by omega) k (by omega), inul2 c r own (by omega) (by omega)]
      simp only [bs]
      exact .inr ⟨r, c, rfl, rfl, by omega, by omega, by omega, by omega, (by first | trivial | rfl), (by first | trivial | rfl)⟩
    · rw [decide_eq_false hr]
      exact .inl ⟨(by first | trivial | rfl), (by first | trivial | rfl)⟩
  · rw [decide_eq_false hc]
    exact .inl ⟨(by first | trivial | rfl), (by first | trivial | rfl)⟩
theorem per_all2 (c : Int) (own : Bool) (row : Int) (k : Nat) (hk : 300 ≤ k) :
    (impl_RowPeriod.f c own row = some (0, false) ∧ spec_RowPeriod.f k c own row = some (0, false)) ∨
    ∃ c' f' : Nat, c = (c' : Int) ∧ row = (f' : Int) ∧ 1 ≤ c' ∧ c' ≤ 6 ∧ f' < 2 ^ c' ∧ f' ≠ 0 ∧
      impl_RowPeriod.f c own row = some (((per c' own f' : Nat) : Int), true) ∧ spec_RowPeriod.f k c own row = some (((per c' own f' : Nat) : Int), true) := by
  obtain ⟨k, rfl⟩ : ∃ m, k = m + 1 := ⟨k - 1, by omega⟩
  unfold impl_RowPeriod.f spec_RowPeriod.f
  rw [csWide_f]
  simp only [bs]
  by_cases h : 1 ≤ c ∧ c ≤ 8
  · by_cases h2 : 0 ≤ row ∧ row ≤ ((2 ^ c.toNat - 1 : Nat) : Int)
    · have hok : rpOk c row = true := by unfold rpOk; rw [decide_eq_true h, decide_eq_true h2]; rfl
      rw [decide_eq_true h, decide_eq_true h2]
      simp only [Bool.and_self, if_true]
      by_cases h0 : row = 0
      · rw [if_neg fun e => e.2.1 h0, if_pos h0, spec_RowPeriod.j0, if_pos rfl]
        exact .inl ⟨(by first | trivial | rfl), (by first | trivial | rfl)⟩
      · by_cases h6 : c ≤ 6
        · obtain ⟨c, rfl⟩ := Int.eq_ofNat_of_zero_le (show 0 ≤ c by omega)
          obtain ⟨row, rfl⟩ := Int.eq_ofNat_of_zero_le h2.1
          have hq := Nat.two_pow_pos c
          have h2' := h2
          rw [Int.toNat_natCast] at h2'
          obtain ⟨p1, p2, p3, p4⟩ := per_is c (by omega) own row (by omega) (by omega)
          rw [if_pos ⟨hok, h0, h6⟩, if_neg h0, spec_RowPeriod.j0, if_neg (by simp <;> omega)]
          have e := spec_period_l c (by omega) own row (by omega) (by omega) (per c own row - 1) 0 k (by omega) (by omega)
          exact .inr ⟨c, row, rfl, rfl, by omega, by omega, by omega, by omega, by simp only [Int.toNat_natCast], e⟩
        · rw [if_neg fun e => h6 e.2.2, if_neg h0, spec_RowPeriod.j0, if_pos (by simp <;> omega)]
          exact .inl ⟨(by first | trivial | rfl), (by first | trivial | rfl)⟩
    · have hok : rpOk c row = false := by unfold rpOk; rw [decide_eq_false h2, Bool.and_false]
      rw [decide_eq_false h2, Bool.and_false, if_neg fun e => by rw [hok] at e; cases e.1]
      simp only [Bool.false_eq_true, if_false]
      rw [spec_RowPeriod.j0, if_pos rfl]
      exact .inl ⟨(by first | trivial | rfl), (by first | trivial | rfl)⟩
  · have hok : rpOk c row = false := by unfold rpOk; rw [decide_eq_false h, Bool.false_and]
    rw [decide_eq_false h, Bool.false_and, if_neg fun e => by rw [hok] at e; cases e.1]
    simp only [Bool.false_eq_true, if_false]
    rw [spec_RowPeriod.j0, if_pos rfl]
    exact .inl ⟨(by first | trivial | rfl), (by first | trivial | rfl)⟩
theorem rtg_all (c : Int) (own : Bool) (row : Int) : ∃ r, impl_RowToggles.f c own row = some r ∧ spec_RowToggles.f c own row = some r := by
  unfold spec_RowToggles.f impl_RowToggles.f
  rw [csWide_f, isWide_one]
  simp only [bs]
  by_cases h : 1 ≤ c ∧ c ≤ 8
  · by_cases h2 : 0 ≤ row ∧ row ≤ ((2 ^ c.toNat - 1 : Nat) : Int)
    · rw [decide_eq_true h, decide_eq_true h2, Bool.and_self, if_pos rfl, if_pos rfl]
      obtain ⟨c, rfl⟩ := Int.eq_ofNat_of_zero_le (show 0 ≤ c by omega)
      obtain ⟨row, rfl⟩ := Int.eq_ofNat_of_zero_le h2.1
      rw [Int.toNat_natCast] at h2
      have hq := Nat.two_pow_pos c
      rw [csToggles_f c (by omega) own row (by omega), rowToggles_f c (by omega) own row (by omega)]
      exact ⟨_, (by first | trivial | rfl), (by first | trivial | rfl)⟩
    · rw [decide_eq_false h2, Bool.and_false]; exact ⟨_, (by first | trivial | rfl), (by first | trivial | rfl)⟩
  · rw [decide_eq_false h, Bool.false_and]; exact ⟨_, (by first | trivial | rfl), (by first | trivial | rfl)⟩
theorem rbh_all (c : Int) (own : Bool) (row n : Int) (k : Nat) (hk : 300 ≤ k) : ∃ r, impl_RowBehind.f c own row n = some r ∧ spec_RowBehind.f k c own row n = some r := by
  unfold spec_RowBehind.f impl_RowBehind.f
  rw [csWide_f, isWide_one]
  simp only [bs]
  by_cases h : 1 ≤ c ∧ c ≤ 8
  · by_cases h2 : 0 ≤ row ∧ row ≤ ((2 ^ c.toNat - 1 : Nat) : Int)
    · rw [decide_eq_true h, decide_eq_true h2, Bool.and_self, if_pos rfl, if_pos rfl, l1In_f, in_f]
      simp only [bs]
      by_cases h3 : 0 ≤ n ∧ n ≤ 200
      · rw [decide_eq_true h3, if_pos rfl, if_pos rfl]
        obtain ⟨c, rfl⟩ := Int.eq_ofNat_of_zero_le (show 0 ≤ c by omega)
        obtain ⟨row, rfl⟩ := Int.eq_ofNat_of_zero_le h2.1
        obtain ⟨n, rfl⟩ := Int.eq_ofNat_of_zero_le h3.1
        rw [Int.toNat_natCast] at h2
        have hq := Nat.two_pow_pos c
        rw [csBehind_f c (by omega) own row (by omega) n k (by omega) (by omega), rowBehind_f c (by omega) own row (by omega) n (by omega)]
        exact ⟨_, (by first | trivial | rfl), (by first | trivial | rfl)⟩
      · rw [decide_eq_false h3]; exact ⟨_, (by first | trivial | rfl), (by first | trivial | rfl)⟩
    · rw [decide_eq_false h2, Bool.and_false]; exact ⟨_, (by first | trivial | rfl), (by first | trivial | rfl)⟩
  · rw [decide_eq_false h, Bool.false_and]; exact ⟨_, (by first | trivial | rfl), (by first | trivial | rfl)⟩
theorem irb_f (c : Nat) (hc0 : 1 ≤ c) (hc : c ≤ 8) (own : Bool) (f : Nat) (hf : f < 2 ^ c) (n : Nat) (hn : n ≤ 200) : impl_RowBehind.f (c : Int) own (f : Int) (n : Int) = some ((((cr c own 0 f n).2 : Nat) : Int), true) := by
  unfold impl_RowBehind.f
  rw [isWide_one, Int.toNat_natCast, decide_eq_true (show 1 ≤ (c : Int) ∧ (c : Int) ≤ 8 by omega), decide_eq_true (show 0 ≤ (f : Int) ∧ (f : Int) ≤ ((2 ^ c - 1 : Nat) : Int) by omega)]
  simp only [bs, Bool.and_self, if_true]
  rw [in_f, decide_eq_true (show 0 ≤ (n : Int) ∧ (n : Int) ≤ 200 by omega)]
  simp only [bs, if_true]
  rw [rowBehind_f c (by omega) own f hf n (by omega)]
  simp only [bs]
theorem qr_l (c : Nat) (hc : c ≤ 8) (own : Bool) (f : Nat) (hf : f < 2 ^ c) (most : Nat) (hm : most ≤ 200) : ∀ n i k, i + n = most → n + 300 < k → spec_QuietRows.l0 k (c : Int) own (f : Int) (most : Int) (zs (qrs c own f (i + 1))) ((i : Int) + 1) = some (zs (qrs c own f (most + 1)), true) := by
  intro n
  induction n with
  | zero =>
    intro i k hi hk
    obtain ⟨k, rfl⟩ : ∃ m, k = m + 1 := ⟨k - 1, by omega⟩
    rw [spec_QuietRows.l0, if_neg (by omega), show i = most by omega]
  | succ n ih =>
    intro i k hi hk
    obtain ⟨k, rfl⟩ : ∃ m, k = m + 1 := ⟨k - 1, by omega⟩
    have hs : qrs c own f (i + 1 + 1) = if 1 ≤ i + 1 ∧ (cr c own 0 f (i + 1)).2 = 0 then qrs c own f (i + 1) ++ [i + 1] else qrs c own f (i + 1) := rfl
    have hl := qrs_len c own f (i + 1)
    have ihs := ih (i + 1) k (by omega) (by omega)
    rw [spec_QuietRows.l0, if_pos (by omega), show ((i : Int) + 1) = ((i + 1 : Nat) : Int) from rfl, csBehind_f c (by omega) own f hf (i + 1) k (by omega) (by omega)]
    simp only [bs]
    rw [show (((i + 1 : Nat) : Int) + 1) = ((i + 2 : Nat) : Int) from rfl, wrapn _ (by omega)]
    by_cases h0 : (cr c own 0 f (i + 1)).2 = 0
    · rw [hs, if_pos ⟨by omega, h0⟩, zs_append, zs_one] at ihs
      rw [if_pos (by omega), if_pos (by rw [zs_length]; omega)]
      exact ihs
    · rw [hs, if_neg (fun e => h0 e.2)] at ihs
      rw [if_neg (by omega)]
      exact ihs
theorem qr_all (c : Int) (own : Bool) (f most : Int) (k : Nat) (hk : 700 ≤ k) :
    (impl_QuietRows.f c own f most = some ([], false) ∧ spec_QuietRows.f k c own f most = some ([], false)) ∨
    ∃ c' f' m' : Nat, c = (c' : Int) ∧ f = (f' : Int) ∧ most = (m' : Int) ∧ 1 ≤ c' ∧ c' ≤ 8 ∧ f' < 2 ^ c' ∧ f' ≠ 0 ∧ m' ≤ 200 ∧
      impl_QuietRows.f c own f most = some (zs (qrs c' own f' (m' + 1)), true) ∧ spec_QuietRows.f k c own f most = some (zs (qrs c' own f' (m' + 1)), true) := by
  obtain ⟨k, rfl⟩ : ∃ m, k = m + 1 := ⟨k - 1, by omega⟩
  unfold impl_QuietRows.f
  by_cases hok : qrOk c f most = true
  · rw [if_pos hok]
    unfold qrOk at hok
    simp only [Bool.and_eq_true, decide_eq_true_eq] at hok
    obtain ⟨⟨hc, hf⟩, h0, hm⟩ := hok
    obtain ⟨c, rfl⟩ := Int.eq_ofNat_of_zero_le (show 0 ≤ c by omega)
    obtain ⟨f, rfl⟩ := Int.eq_ofNat_of_zero_le hf.1
    obtain ⟨most, rfl⟩ := Int.eq_ofNat_of_zero_le hm.1
    simp only [Int.toNat_natCast] at hf ⊢
    have hq := Nat.two_pow_pos c
    have hf2 : f < 2 ^ c := by omega
    refine .inr ⟨c, f, most, rfl, rfl, rfl, by omega, by omega, hf2, by omega, by omega, (by first | trivial | rfl), ?_⟩
    unfold spec_QuietRows.f
    rw [csWide_f, decide_eq_true hc, Int.toNat_natCast, decide_eq_true hf]
    simp only [bs, Bool.and_self, if_true]
    rw [if_neg h0, l1In_f]
    simp only [bs]
    rw [decide_eq_true hm, spec_QuietRows.j0, if_neg (by decide)]
    exact qr_l c (by omega) own f hf2 most (by omega) most 0 k (by omega) (by omega)
  · rw [if_neg hok]
    refine .inl ⟨rfl, ?_⟩
    unfold qrOk at hok
    unfold spec_QuietRows.f
    rw [csWide_f]
    simp only [bs]
    by_cases h1 : (decide (1 ≤ c ∧ c ≤ 8) && decide (0 ≤ f ∧ f ≤ ((2 ^ c.toNat - 1 : Nat) : Int))) = true
    · rw [if_pos h1]
      rw [h1, Bool.true_and] at hok
      by_cases h0 : f = 0
      · rw [if_pos h0, spec_QuietRows.j0, if_pos rfl]
      · rw [if_neg h0, l1In_f]
        simp only [bs]
        rw [decide_eq_true h0, Bool.true_and, decide_eq_true_eq] at hok
        rw [decide_eq_false hok, spec_QuietRows.j0, if_pos (by decide)]
    · rw [if_neg h1, spec_QuietRows.j0, if_pos rfl]
/-- The nullities of grids of so many columns, by rows. -/
def nuls (c : Nat) (own : Bool) (n : Nat) : List Int := (List.range n).map fun i => ((c - (img (rws c own (i + 1))).length : Nat) : Int)
theorem nuls_succ (c : Nat) (own : Bool) (n : Nat) : nuls c own (n + 1) = nuls c own n ++ [((c - (img (rws c own (n + 1))).length : Nat) : Int)] := by simp [nuls, List.range_succ]
theorem nuls_length (c : Nat) (own : Bool) (n : Nat) : (nuls c own n).length = n := by simp [nuls]
theorem nus_sl (c : Nat) (hc : c ≤ 8) (own : Bool) (most : Nat) (hm : most ≤ 200) : ∀ n i k, i + n = most → n + 1400 < k → spec_NullitiesByRows.l0 k (c : Int) own (most : Int) (nuls c own i) ((i : Int) + 1) = some (nuls c own most, true) := by
  have hp : (2 : Nat) ^ c ≤ 2 ^ 8 := Nat.pow_le_pow_right (by decide) hc
  intro n
  induction n with
  | zero =>
    intro i k hi hk
    obtain ⟨k, rfl⟩ : ∃ m, k = m + 1 := ⟨k - 1, by omega⟩
    rw [spec_NullitiesByRows.l0, if_neg (by omega), show i = most by omega]
  | succ n ih =>
    intro i k hi hk
    obtain ⟨k, rfl⟩ : ∃ m, k = m + 1 := ⟨k - 1, by omega⟩
    rw [spec_NullitiesByRows.l0, if_pos (by omega), show ((i : Int) + 1) = ((i + 1 : Nat) : Int) from rfl, csNul_f c (by omega) own (i + 1) (by omega) k (by omega)]
    simp only [bs]
    rw [if_pos (by rw [nuls_length]; omega), ← nuls_succ, show (((i + 1 : Nat) : Int) + 1) = ((i + 2 : Nat) : Int) from rfl, wrapn _ (by omega)]
    exact ih (i + 1) k (by omega) (by omega)
theorem nus_il (c : Nat) (hc : c ≤ 8) (own : Bool) (most : Nat) (hm : most ≤ 200) : ∀ n i k, i + n = most → n < k → impl_NullitiesByRows.l0 k (c : Int) own (most : Int) (nuls c own i) ((i : Int) + 1) = some (nuls c own most, true) := by
  intro n
  induction n with
  | zero =>
    intro i k hi hk
    obtain ⟨k, rfl⟩ : ∃ m, k = m + 1 := ⟨k - 1, by omega⟩
    rw [impl_NullitiesByRows.l0, if_neg (by omega), show i = most by omega]
  | succ n ih =>
    intro i k hi hk
    obtain ⟨k, rfl⟩ : ∃ m, k = m + 1 := ⟨k - 1, by omega⟩
    rw [impl_NullitiesByRows.l0, if_pos (by omega), show ((i : Int) + 1) = ((i + 1 : Nat) : Int) from rfl, inul2 c (i + 1) own (by omega) (by omega)]
    simp only [bs]
    rw [if_pos (by rw [nuls_length]; omega), ← nuls_succ, show (((i + 1 : Nat) : Int) + 1) = ((i + 2 : Nat) : Int) from rfl, wrapn _ (by omega)]
    exact ih (i + 1) k (by omega) (by omega)
theorem nus_all (c : Int) (own : Bool) (most : Int) (k : Nat) (hk : 1700 ≤ k) :
    (spec_NullitiesByRows.f k c own most = some ([], false) ∧ impl_NullitiesByRows.f k c own most = some ([], false)) ∨
    ∃ c' m' : Nat, c = (c' : Int) ∧ most = (m' : Int) ∧ 1 ≤ c' ∧ c' ≤ 8 ∧ m' ≤ 200 ∧ spec_NullitiesByRows.f k c own most = some (nuls c' own m', true) ∧ impl_NullitiesByRows.f k c own most = some (nuls c' own m', true) := by
  obtain ⟨k, rfl⟩ : ∃ m, k = m + 1 := ⟨k - 1, by omega⟩
  unfold spec_NullitiesByRows.f impl_NullitiesByRows.f
  rw [csWide_f, isWide_none, wide_z]
  simp only [bs]
  by_cases hc : 1 ≤ c ∧ c ≤ 8
  · rw [decide_eq_true hc]
    simp only [if_true]
    rw [l1In_f, in_f]
    simp only [bs]
    by_cases hm : 0 ≤ most ∧ most ≤ 200
    · obtain ⟨c, rfl⟩ := Int.eq_ofNat_of_zero_le (show 0 ≤ c by omega)
      obtain ⟨most, rfl⟩ := Int.eq_ofNat_of_zero_le hm.1
      rw [decide_eq_true hm, spec_NullitiesByRows.j0, impl_NullitiesByRows.j0, if_neg (by decide), if_neg (by decide)]
      exact .inr ⟨c, most, rfl, rfl, by omega, by omega, by omega, nus_sl c (by omega) own most (by omega) most 0 k (by omega) (by omega), nus_il c (by omega) own most (by omega) most 0 k (by omega) (by omega)⟩
    · rw [decide_eq_false hm, spec_NullitiesByRows.j0, impl_NullitiesByRows.j0, if_pos (by decide), if_pos (by decide)]
      exact .inl ⟨(by first | trivial | rfl), (by first | trivial | rfl)⟩
  · rw [decide_eq_false hc]
    simp only [Bool.false_eq_true, if_false]
    rw [spec_NullitiesByRows.j0, impl_NullitiesByRows.j0, if_pos rfl, if_pos rfl]
    exact .inl ⟨(by first | trivial | rfl), (by first | trivial | rfl)⟩
theorem gridN_f (r c : Nat) (own : Bool) (hr0 : 1 ≤ r) (hr : r ≤ 16) (hc0 : 1 ≤ c) (hc : c ≤ 16) (h : c * r ≤ 16) : impl_NullityOf.f (zs (Grd.gridL r c)) own = some (((c - (img (rws c own r)).length : Nat) : Int), true) := by
  unfold impl_NullityOf.f Exp.nullF
  rw [if_pos (gridG_g r c hr0 hr hc0 hc h), Exq.efs_zs, Grd.grid_null hr0 hr hc0 hc (by rw [Nat.mul_comm]; exact h)]

end Go.Proofs.Ytgnjndkbccakgaa.LemFnRowsTellNullities
