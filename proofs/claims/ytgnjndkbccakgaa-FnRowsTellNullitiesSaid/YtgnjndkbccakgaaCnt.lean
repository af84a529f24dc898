/- How many presses have no effect: the count of a kernel, by the size of the basis of effects; the pattern of rows is linear. No program here. -/
import Derived.Test.YtgnjndkbccakgaaKer
import Derived.Test.YtgnjndkbccakgaaRow
namespace Go.Proofs.Ytgnjndkbccakgaa.Cnt
open Go.Proofs.Ytgnjndkbccakgaa.Lin Go.Proofs.Ytgnjndkbccakgaa.Ker Go.Proofs.Ytgnjndkbccakgaa.Row

def cntB (p : Nat → Bool) : Nat → Nat
  | 0 => 0
  | n + 1 => cntB p n + if p n then 1 else 0
theorem cntB_add (p : Nat → Bool) (a : Nat) : ∀ b, cntB p (a + b) = cntB p a + cntB (fun x => p (a + x)) b
  | 0 => rfl
  | b + 1 => by
    show cntB p (a + b) + _ = cntB p a + (cntB (fun x => p (a + x)) b + _)
    rw [cntB_add p a b, Nat.add_assoc]; rfl
theorem cntB_congr {p q : Nat → Bool} : ∀ n, (∀ x, x < n → p x = q x) → cntB p n = cntB q n
  | 0, _ => rfl
  | n + 1, h => by
    show cntB p n + _ = cntB q n + _
    rw [cntB_congr n fun x hx => h x (by omega), h n (Nat.lt_succ_self n)]
theorem cntB_false {p : Nat → Bool} : ∀ n, (∀ x, x < n → p x = false) → cntB p n = 0
  | 0, _ => rfl
  | n + 1, h => by
    show cntB p n + _ = 0
    rw [cntB_false n fun x hx => h x (by omega), h n (Nat.lt_succ_self n)]; rfl
theorem two_add {k x : Nat} (h : x < 2 ^ k) : 2 ^ k + x = 2 ^ k ^^^ x := by
  apply Nat.eq_of_testBit_eq
  intro j
  rw [Nat.testBit_xor]
  rcases Nat.lt_trichotomy j k with hj | rfl | hj
  · rw [Nat.testBit_two_pow_add_gt hj, Nat.testBit_two_pow_of_ne (by omega), Bool.false_xor]
  · rw [Nat.testBit_two_pow_add_eq, Nat.testBit_two_pow_self, Nat.testBit_lt_two_pow h]; rfl
  · have h1 : 2 ^ k + x < 2 ^ j := by
      have : 2 ^ (k + 1) ≤ 2 ^ j := Nat.pow_le_pow_right (by decide) hj
      rw [Nat.pow_succ] at this
      omega
    rw [Nat.testBit_lt_two_pow h1, Nat.testBit_two_pow_of_ne (by omega), Nat.testBit_lt_two_pow (Nat.lt_of_lt_of_le h (Nat.pow_le_pow_right (by decide) (by omega)))]; rfl
/-- Adding one set to all turns the sets about: none is lost. -/
theorem cntB_shift (p : Nat → Bool) : ∀ (k a : Nat), a < 2 ^ k → cntB (fun x => p (x ^^^ a)) (2 ^ k) = cntB p (2 ^ k)
  | 0, a, h => by
    have : a = 0 := by simpa using h
    subst this
    exact cntB_congr _ fun x _ => by rw [Nat.xor_zero]
  | k + 1, a, h => by
    have hs : (2 : Nat) ^ (k + 1) = 2 ^ k + 2 ^ k := by rw [Nat.pow_succ]; omega
    rw [hs, cntB_add, cntB_add]
    cases hb : a.testBit k with
    | false =>
      have ha := no_bit h hb
      rw [cntB_shift p k a ha]
      congr 1
      rw [← cntB_shift (fun x => p (2 ^ k + x)) k a ha]
      exact cntB_congr _ fun x hx => by rw [two_add hx, two_add (Nat.xor_lt_two_pow hx ha), Nat.xor_assoc]
    | true =>
      have ha : a ^^^ 2 ^ k < 2 ^ k := drop_bit h (Nat.pow_lt_pow_right (by decide) (Nat.lt_succ_self _)) hb Nat.testBit_two_pow_self
      have e : a = 2 ^ k ^^^ (a ^^^ 2 ^ k) := by rw [Nat.xor_comm, xx]
      generalize a ^^^ 2 ^ k = b at *
      subst e
      rw [Nat.add_comm (cntB p (2 ^ k))]
      congr 1
      · rw [← cntB_shift (fun x => p (2 ^ k + x)) k b ha]
        exact cntB_congr _ fun x hx => by
          rw [two_add (Nat.xor_lt_two_pow hx ha), ← Nat.xor_assoc, ← Nat.xor_assoc, Nat.xor_comm x]
      · rw [← cntB_shift p k b ha]
        exact cntB_congr _ fun x hx => by
          rw [two_add hx, ← Nat.xor_assoc, Nat.xor_comm (2 ^ k) x, xx]
theorem mp_take (es : List Nat) (x : Nat) {j : Nat} (hj : j ≤ es.length) : ∀ k, k ≤ j → mp (es.take j) x k = mp es x k
  | 0, _ => rfl
  | k + 1, h => by
    unfold mp
    rw [mp_take es x hj k (by omega), gD_lt _ _ (by rw [List.length_take]; omega), gD_lt _ _ (by omega), List.getElem_take]
/-- The size of the kernel, times the number of sums of the basis, is the number of all sets. -/
theorem cnt_ker (es : List Nat) : ∀ k, k ≤ es.length → cntB (fun x => mp es x k == 0) (2 ^ k) * 2 ^ (img (es.take k)).length = 2 ^ k
  | 0, _ => by rw [List.take_zero]; rfl
  | k + 1, hk => by
    have ih := cnt_ker es k (by omega)
    have hs : (2 : Nat) ^ (k + 1) = 2 ^ k + 2 ^ k := by rw [Nat.pow_succ]; omega
    have hlen : (es.take k).length = k := by rw [List.length_take]; omega
    have h1 : cntB (fun x => mp es x (k + 1) == 0) (2 ^ k) = cntB (fun x => mp es x k == 0) (2 ^ k) := cntB_congr _ fun x hx => by rw [mp_le es hx (Nat.le_succ k)]
    have h2 : ∀ x, x < 2 ^ k → mp es (2 ^ k + x) (k + 1) = es.getD k 0 ^^^ mp es x k := fun x hx => by
      rw [two_add hx, mp_xor, mp_pow, mp_le es hx (Nat.le_succ k)]
    rw [hs, cntB_add, h1]
    rw [List.take_succ_eq_append_getElem (by omega), img_snoc, ← gD_lt es 0 (by omega)]
    by_cases hr : red (img (es.take k)) (es.getD k 0) = 0
    · have e : putB (img (es.take k)) (es.getD k 0) = img (es.take k) := by unfold putB; rw [if_pos hr]
      obtain ⟨x0, hx0, e0⟩ := (img_zero (es.take k) (es.getD k 0)).1 hr
      rw [hlen] at hx0 e0
      rw [mp_take es x0 (by omega) k (Nat.le_refl _)] at e0
      have h3 : cntB (fun x => mp es (2 ^ k + x) (k + 1) == 0) (2 ^ k) = cntB (fun x => mp es x k == 0) (2 ^ k) := by
        rw [← cntB_shift (fun x => mp es x k == 0) k x0 hx0]
        exact cntB_congr _ fun x hx => by rw [h2 x hx, mp_xor, e0, Nat.xor_comm]
      rw [e, h3, Nat.add_mul, ih]
    · have e : (putB (img (es.take k)) (es.getD k 0)).length = (img (es.take k)).length + 1 := by
        have hB := img_isB (es.take k)
        have hne : ∀ b ∈ img (es.take k), b.log2 ≠ (red (img (es.take k)) (es.getD k 0)).log2 := fun b hb e => by
          have := red_bit hB (es.getD k 0) b hb
          rw [e, top_bit hr] at this
          cases this
        have e1 : putB (img (es.take k)) (es.getD k 0) = (img (es.take k)).filter (fun b => b.log2 < (red (img (es.take k)) (es.getD k 0)).log2) ++ red (img (es.take k)) (es.getD k 0) :: ((img (es.take k)).filter (fun b => (red (img (es.take k)) (es.getD k 0)).log2 < b.log2)).map (clr (red (img (es.take k)) (es.getD k 0))) := if_neg hr
        rw [e1]
        generalize img (es.take k) = B at *
        generalize red B (es.getD k 0) = t at *
        rw [List.length_append, List.length_cons, List.length_map]
        have h5 : ∀ C : List Nat, (∀ b ∈ C, b.log2 ≠ t.log2) → (C.filter (fun b => decide (b.log2 < t.log2))).length + (C.filter (fun b => decide (t.log2 < b.log2))).length = C.length := by
          intro C
          induction C with
          | nil => intro _; rfl
          | cons c C ihC =>
            intro hC
            have h6 := ihC fun b hb => hC b (List.mem_cons_of_mem _ hb)
            have h7 := hC c (List.mem_cons_self ..)
            rcases Nat.lt_or_gt_of_ne h7 with h8 | h8
            · rw [List.filter_cons_of_pos (by simpa using h8), List.filter_cons_of_neg (by simp; omega), List.length_cons, List.length_cons]; omega
            · rw [List.filter_cons_of_neg (by simp; omega), List.filter_cons_of_pos (by simpa using h8), List.length_cons, List.length_cons]; omega
        have := h5 B hne
        omega
      have h3 : cntB (fun x => mp es (2 ^ k + x) (k + 1) == 0) (2 ^ k) = 0 := cntB_false _ fun x hx => by
        rw [h2 x hx, beq_eq_false_iff_ne]
        intro e2
        refine hr ((img_zero (es.take k) (es.getD k 0)).2 ⟨x, by rw [hlen]; exact hx, ?_⟩)
        rw [hlen, mp_take es x (by omega) k (Nat.le_refl _)]
        exact (xeq e2).symm
      rw [e, h3, Nat.add_zero, Nat.pow_succ, ← Nat.mul_assoc, ih]
      omega
theorem img_le (es : List Nat) : (img es).length ≤ es.length := by
  have h := cnt_ker es es.length (Nat.le_refl _)
  rw [List.take_length] at h
  refine Decidable.byContradiction fun hn => ?_
  have h1 : 2 ^ es.length < 2 ^ (img es).length := Nat.pow_lt_pow_right (by decide) (by omega)
  rcases Nat.eq_zero_or_pos (cntB (fun x => mp es x es.length == 0) (2 ^ es.length)) with h2 | h2
  · rw [h2, Nat.zero_mul] at h
    have := Nat.two_pow_pos es.length
    omega
  · have := Nat.mul_le_mul_right (2 ^ (img es).length) h2
    omega
theorem cnt_all (es : List Nat) : cntB (fun x => mp es x es.length == 0) (2 ^ es.length) = 2 ^ (es.length - (img es).length) := by
  have h := cnt_ker es es.length (Nat.le_refl _)
  rw [List.take_length] at h
  have h1 : 2 ^ es.length = 2 ^ (es.length - (img es).length) * 2 ^ (img es).length := by rw [← Nat.pow_add, Nat.sub_add_cancel (img_le es)]
  rw [h1] at h
  rw [← h1] at h
  exact Nat.eq_of_mul_eq_mul_right (Nat.two_pow_pos (img es).length) (h.trans h1)

/-! ### The pattern of rows is linear -/
theorem tog_xor (c : Nat) (own : Bool) (a b : Nat) : tog c own (a ^^^ b) = tog c own a ^^^ tog c own b := by
  unfold tog
  have h1 : (a ^^^ b) * 2 = a * 2 ^^^ b * 2 := mulx a b 1
  have h2 : (a ^^^ b) / 2 = a / 2 ^^^ b / 2 := divx a b 1
  rw [h1, h2]
  have h3 : a * 2 ^^^ b * 2 ^^^ (a / 2 ^^^ b / 2) = (a * 2 ^^^ a / 2) ^^^ (b * 2 ^^^ b / 2) := by
    rw [Nat.xor_assoc, Nat.xor_assoc]
    congr 1
    rw [← Nat.xor_assoc, Nat.xor_comm (b * 2), Nat.xor_assoc]
  rw [h3, Nat.and_xor_distrib_right]
  cases own with
  | false => simp
  | true =>
    rw [if_pos rfl, if_pos rfl, if_pos rfl]
    generalize (a * 2 ^^^ a / 2) &&& (2 ^ c - 1) = u
    generalize (b * 2 ^^^ b / 2) &&& (2 ^ c - 1) = v
    rw [Nat.xor_assoc, Nat.xor_assoc]
    congr 1
    rw [← Nat.xor_assoc, Nat.xor_comm v, Nat.xor_assoc]
theorem cr_nx (c : Nat) (own : Bool) (f i : Nat) : cr c own 0 f (i + 1) = ((cr c own 0 f i).2, tog c own (cr c own 0 f i).2 ^^^ (cr c own 0 f i).1) := by
  rw [cr]
  unfold rowOf
  rw [Nat.zero_div, Nat.zero_and, Nat.zero_xor, Nat.xor_comm]
theorem cr_xor (c : Nat) (own : Bool) (f g : Nat) : ∀ i, (cr c own 0 (f ^^^ g) i).1 = (cr c own 0 f i).1 ^^^ (cr c own 0 g i).1 ∧ (cr c own 0 (f ^^^ g) i).2 = (cr c own 0 f i).2 ^^^ (cr c own 0 g i).2
  | 0 => ⟨(Nat.xor_self 0).symm, rfl⟩
  | i + 1 => by
    obtain ⟨h1, h2⟩ := cr_xor c own f g i
    rw [cr_nx, cr_nx, cr_nx]
    refine ⟨h2, ?_⟩
    show tog c own _ ^^^ _ = _ ^^^ _ ^^^ (_ ^^^ _)
    rw [h1, h2, tog_xor]
    rw [Nat.xor_assoc, Nat.xor_assoc]
    congr 1
    rw [← Nat.xor_assoc, Nat.xor_comm (tog c own (cr c own 0 g i).2), Nat.xor_assoc]
/-- The rows that buttons of the first row leave behind. -/
def rws (c : Nat) (own : Bool) (rows : Nat) : List Nat := (List.range c).map fun i => (cr c own 0 (2 ^ i) rows).2
theorem rws_length (c : Nat) (own : Bool) (rows : Nat) : (rws c own rows).length = c := by simp [rws]
theorem mp_lin (g : Nat → Nat) (hg : ∀ x y, g (x ^^^ y) = g x ^^^ g y) (c x : Nat) : ∀ k, k ≤ c → mp ((List.range c).map fun i => g (2 ^ i)) x k = g (x % 2 ^ k)
  | 0, _ => by
    have h0 : g 0 = 0 := by have := hg 0 0; rw [Nat.xor_self] at this; rw [this, Nat.xor_self]
    rw [Nat.pow_zero, Nat.mod_one, h0]; rfl
  | k + 1, hk => by
    have ih := mp_lin g hg c x k (by omega)
    unfold mp
    rw [ih, gD_lt _ _ (by simp; omega)]
    simp only [List.getElem_map, List.getElem_range]
    have hm : x % 2 ^ (k + 1) = if x.testBit k then 2 ^ k + x % 2 ^ k else x % 2 ^ k := by
      rw [Nat.pow_succ, Nat.mod_mul, Nat.testBit_eq_decide_div_mod_eq]
      rcases Nat.mod_two_eq_zero_or_one (x / 2 ^ k) with h | h
      · rw [h, if_neg (by decide)]; omega
      · rw [h, if_pos (by decide)]; omega
    rw [hm]
    cases x.testBit k with
    | true => rw [if_pos rfl, if_pos rfl, two_add (Nat.mod_lt _ (Nat.two_pow_pos k)), hg, Nat.xor_comm]
    | false => rfl
/-- How many first rows leave nothing: a power of 2. -/
theorem cnt_rows (c : Nat) (own : Bool) (rows : Nat) : cntB (fun x => (cr c own 0 x rows).2 == 0) (2 ^ c) = 2 ^ (c - (img (rws c own rows)).length) ∧ (img (rws c own rows)).length ≤ c := by
  have h := cnt_all (rws c own rows)
  have h2 := img_le (rws c own rows)
  rw [rws_length] at h h2
  refine ⟨?_, h2⟩
  rw [← h]
  refine cntB_congr _ fun x hx => ?_
  have := mp_lin (fun f => (cr c own 0 f rows).2) (fun x y => (cr_xor c own x y rows).2) c x c (Nat.le_refl _)
  rw [Nat.mod_eq_of_lt hx] at this
  show _ = (mp ((List.range c).map fun i => (cr c own 0 (2 ^ i) rows).2) x c == 0)
  rw [this]
end Go.Proofs.Ytgnjndkbccakgaa.Cnt
