/- What first rows leave, counted: the sums of a basis are as many as its subsets; the last rows that first rows clear. No program here. -/
import Derived.Test.YtgnjndkbccakgaaCnt
import Derived.Test.YtgnjndkbccakgaaRow2
namespace Go.Proofs.Ytgnjndkbccakgaa.Cha
open Go.Proofs.Ytgnjndkbccakgaa.Lin Go.Proofs.Ytgnjndkbccakgaa.Ker Go.Proofs.Ytgnjndkbccakgaa.Row Go.Proofs.Ytgnjndkbccakgaa.Cnt

/-- Is a set a sum of some of a list? -/
def spB : List Nat → Nat → Bool
  | [], x => x == 0
  | b :: B, x => spB B x || spB B (x ^^^ b)
theorem spB_iff : ∀ (B : List Nat) (x : Nat), spB B x = true ↔ Sp B x
  | [], x => by show (x == 0) = true ↔ x = 0; simp
  | b :: B, x => by
    show (spB B x || spB B (x ^^^ b)) = true ↔ Sp B x ∨ Sp B (x ^^^ b)
    rw [Bool.or_eq_true, spB_iff B x, spB_iff B (x ^^^ b)]
theorem cntB_or {p q : Nat → Bool} : ∀ n, (∀ x, x < n → p x = true → q x = false) → cntB (fun x => p x || q x) n = cntB p n + cntB q n
  | 0, _ => rfl
  | n + 1, h => by
    have ih := cntB_or n fun x hx => h x (by omega)
    show cntB (fun x => p x || q x) n + _ = (cntB p n + _) + (cntB q n + _)
    rw [ih]
    cases hp : p n with
    | true =>
      have hq := h n (by omega) hp
      simp only [hp, hq, Bool.true_or, if_true, Bool.false_eq_true, if_false]
      omega
    | false =>
      simp only [hp, Bool.false_or, Bool.false_eq_true, if_false]
      omega
theorem cnt_zero : ∀ n, cntB (fun x => x == 0) (n + 1) = 1
  | 0 => rfl
  | n + 1 => by
    show cntB (fun x => x == 0) (n + 1) + _ = 1
    rw [cnt_zero n]; rfl
theorem cnt_sp (N : Nat) : ∀ {B : List Nat}, IsB B → (∀ b ∈ B, b < 2 ^ N) → cntB (spB B) (2 ^ N) = 2 ^ B.length
  | [], _, _ => by
    obtain ⟨m, hm⟩ : ∃ m, 2 ^ N = m + 1 := ⟨2 ^ N - 1, by have := Nat.two_pow_pos N; omega⟩
    rw [hm]; exact cnt_zero m
  | b :: B, hB, hl => by
    have ih := cnt_sp N hB.tail fun c hc => hl c (List.mem_cons_of_mem _ hc)
    have hs := cntB_shift (spB B) N b (hl b (List.mem_cons_self ..))
    have hd : ∀ x, x < 2 ^ N → spB B x = true → spB B (x ^^^ b) = false := by
      intro x _ h1
      rw [Bool.eq_false_iff]
      intro h2
      have h3 := ((spB_iff B x).1 h1).add ((spB_iff B _).1 h2)
      rw [xxl] at h3
      have h4 := Sp.bit (i := b.log2) (fun c hc => ((List.pairwise_cons.1 hB.bef).1 c hc).2) h3
      rw [top_bit (hB.ne b (List.mem_cons_self ..))] at h4
      cases h4
    have := cntB_or (2 ^ N) hd
    rw [hs, ih] at this
    show cntB (fun x => spB B x || spB B (x ^^^ b)) (2 ^ N) = _
    rw [this, List.length_cons, Nat.pow_succ]; omega

/-! ### Lights in the last row alone -/
theorem rowOf_up {c last n r : Nat} (h : r < n) : rowOf c (last * 2 ^ (c * n)) r = 0 := by
  unfold rowOf
  obtain ⟨d, rfl⟩ : ∃ d, n = r + (d + 1) := ⟨n - r - 1, by omega⟩
  rw [Nat.and_two_pow_sub_one_eq_mod, Nat.mul_add, Nat.pow_add, Nat.mul_comm (2 ^ (c * r)), ← Nat.mul_assoc, Nat.mul_div_cancel _ (Nat.two_pow_pos _), Nat.mul_add, Nat.mul_one, Nat.pow_add, ← Nat.mul_assoc]
  exact Nat.mul_mod_left _ _
theorem rowOf_here {c last n : Nat} (h : last < 2 ^ c) : rowOf c (last * 2 ^ (c * n)) n = last := by
  unfold rowOf
  rw [Nat.mul_div_cancel _ (Nat.two_pow_pos _), mask_of h]
theorem rowOf_zero (c r : Nat) : rowOf c 0 r = 0 := by unfold rowOf; rw [Nat.zero_div, Nat.zero_and]
theorem cr_before (c : Nat) (own : Bool) (last f n : Nat) : ∀ r, r ≤ n → cr c own (last * 2 ^ (c * n)) f r = cr c own 0 f r
  | 0, _ => rfl
  | r + 1, h => by
    have ih := cr_before c own last f n r (by omega)
    show (_, _) = (_, _)
    rw [ih, rowOf_up (by omega), rowOf_zero]
theorem cr_last {c : Nat} (own : Bool) {last : Nat} (hl : last < 2 ^ c) (f : Nat) {rows : Nat} (h0 : 1 ≤ rows) : (cr c own (last * 2 ^ (c * (rows - 1))) f rows).2 = last ^^^ (cr c own 0 f rows).2 := by
  obtain ⟨n, rfl⟩ : ∃ n, rows = n + 1 := ⟨rows - 1, by omega⟩
  rw [Nat.add_sub_cancel]
  have h := cr_before c own last f n n (Nat.le_refl _)
  show rowOf c (last * 2 ^ (c * n)) n ^^^ (cr c own (last * 2 ^ (c * n)) f n).1 ^^^ tog c own (cr c own (last * 2 ^ (c * n)) f n).2 = last ^^^ (rowOf c 0 n ^^^ (cr c own 0 f n).1 ^^^ tog c own (cr c own 0 f n).2)
  rw [h, rowOf_here hl, rowOf_zero, Nat.zero_xor, Nat.xor_assoc]
theorem mp_rws (c : Nat) (own : Bool) (rows : Nat) {f : Nat} (hf : f < 2 ^ c) : mp (rws c own rows) f c = (cr c own 0 f rows).2 := by
  have := mp_lin (fun f => (cr c own 0 f rows).2) (fun x y => (cr_xor c own x y rows).2) c f c (Nat.le_refl _)
  rwa [Nat.mod_eq_of_lt hf] at this
theorem firsts_im (rows c : Nat) (own : Bool) (h0 : 1 ≤ rows) {last : Nat} (hl : last < 2 ^ c) : firsts rows c own (last * 2 ^ (c * (rows - 1))) ≠ [] ↔ Im (rws c own rows) last := by
  unfold Im
  rw [rws_length]
  constructor
  · intro h
    obtain ⟨f, hf⟩ := List.exists_mem_of_ne_nil _ h
    unfold firsts at hf
    rw [List.mem_filter, List.mem_range, decide_eq_true_eq, cr_last own hl f h0] at hf
    exact ⟨f, hf.1, by rw [mp_rws c own rows hf.1]; exact (xeq hf.2).symm⟩
  · rintro ⟨f, hf, he⟩ h
    rw [mp_rws c own rows hf] at he
    have : f ∈ firsts rows c own (last * 2 ^ (c * (rows - 1))) := by
      unfold firsts
      rw [List.mem_filter, List.mem_range, decide_eq_true_eq, cr_last own hl f h0, he, Nat.xor_self]
      exact ⟨hf, rfl⟩
    rw [h] at this
    cases this
theorem firsts_mem {rows c : Nat} {own : Bool} {L f : Nat} (h : f ∈ firsts rows c own L) : f < 2 ^ c ∧ (cr c own L f rows).2 = 0 := by
  unfold firsts at h
  rwa [List.mem_filter, List.mem_range, decide_eq_true_eq] at h
theorem least_pos (l : List Nat) : 0 ≤ least l ↔ l ≠ [] := by
  cases l with
  | nil => exact ⟨fun h => absurd h (by decide), fun h => absurd rfl h⟩
  | cons a l => exact ⟨fun _ h => List.cons_ne_nil _ _ h, fun _ => Int.natCast_nonneg a⟩
theorem rws_lt (c : Nat) (own : Bool) (rows : Nat) : ∀ e ∈ rws c own rows, e < 2 ^ c := fun e he => by
  unfold rws at he
  obtain ⟨i, hi, rfl⟩ := List.mem_map.1 he
  exact (cr_lt own 0 (Nat.pow_lt_pow_right (by decide) (List.mem_range.1 hi)) rows).2
/-- As many last rows are cleared as the basis of what is left has subsets. -/
theorem cnt_least (rows c : Nat) (own : Bool) (h0 : 1 ≤ rows) : cntB (fun last => decide (0 ≤ least (firsts rows c own (last * 2 ^ (c * (rows - 1)))))) (2 ^ c) = 2 ^ (img (rws c own rows)).length := by
  have hl : ∀ b ∈ img (rws c own rows), b < 2 ^ c := fun b hb => Sp.lt (rws_lt c own rows) ((img_sp _ _).1 (Sp.mem hb))
  rw [← cnt_sp c (img_isB _) hl]
  refine cntB_congr _ fun last hlast => ?_
  rw [Bool.eq_iff_iff, decide_eq_true_eq, least_pos, firsts_im rows c own h0 hlast, spB_iff, img_sp, Sp_im]
end Go.Proofs.Ytgnjndkbccakgaa.Cha
