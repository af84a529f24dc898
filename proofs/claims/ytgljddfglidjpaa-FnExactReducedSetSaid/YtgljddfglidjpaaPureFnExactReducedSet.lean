/- ReducedSet of the program and of the reference agree, for every list and number. -/
import Derived.Test.YtgljddfglidjpaaLemFnExactReducedSet
namespace Go.Proofs.Ytgljddfglidjpaa.Pure
open Go.RowKit Go.Proofs.Ytgljddfglidjpaa.PFnExactReducedSet Go.Proofs.YtgljddfglidjpaaW.PrintWords Go.Proofs.YtgljddfglidjpaaW.PrintLast Go.Proofs.Ytgljddfglidjpaa.Bit Go.Proofs.Ytgljddfglidjpaa.Gra Go.Proofs.Ytgljddfglidjpaa.Lin Go.Proofs.Ytgljddfglidjpaa.Ker Go.Proofs.Ytgljddfglidjpaa.LemFnExactReducedSet

def b (l : List Int) (j : Nat) : Nat := (rd l (j : Int)).toNat
def inR (l : List Int) (j : Nat) : Prop := 1 ≤ rd l (j : Int) ∧ rd l (j : Int) ≤ 65535
instance (l : List Int) (j : Nat) : Decidable (inR l j) := inferInstanceAs (Decidable (_ ∧ _))
theorem inR.eq {l : List Int} {j : Nat} (h : inR l j) : rd l (j : Int) = ((b l j : Nat) : Int) := (Int.toNat_of_nonneg (by have := h.1; omega)).symm
theorem inR.le {l : List Int} {j : Nat} (h : inR l j) : 1 ≤ b l j ∧ b l j < 2 ^ 16 := by
  have h1 := h.eq
  have h2 := h.1
  have h3 := h.2
  omega
/-- What the program asks of the place j, what lies before it being in order. -/
def OKj (l : List Int) (j : Nat) : Prop := inR l j ∧ (0 < j → (b l (j - 1)).log2 < (b l j).log2) ∧ ∀ k, k < j → (b l j).testBit (b l k).log2 = false
/-- What the reference asks of it, all being in range. -/
def Sj (l : List Int) (j : Nat) : Prop := (0 < j → (b l (j - 1)).log2 < (b l j).log2) ∧ ∀ k, j < k → k < l.length → (b l k).testBit (b l j).log2 = false
theorem top_f (x : Nat) (h1 : 1 ≤ x) (h : x < 2 ^ 16) : impl_top.f (x : Int) = some ((x.log2 : Nat) : Int) := by
  unfold impl_top.f two62
  rw [if_pos (Int.natCast_nonneg _), if_pos (by omega), Int.toNat_natCast, topI_pos h1]

/-! ### The program -/
theorem impl_l1 (l : List Int) (i : Nat) (hi : i < l.length) (hl : l.length < 2 ^ 40) (hR : ∀ j, j ≤ i → inR l j) (r : Bool) (K : Nat) : ∀ n q k, q + n = l.length → n + K < k →
    (∀ k', K ≤ k' → impl_isBasis.l0 k' l l (l.length : Int) ((i : Int) + 1) = some r) →
    (impl_isBasis.l1 k l (i : Int) (rd l (i : Int)) l (l.length : Int) (i : Int) l (l.length : Int) (q : Int) = some false ∧ ∃ c, q ≤ c ∧ c < i ∧ (b l i).testBit (b l c).log2 = true) ∨
    (impl_isBasis.l1 k l (i : Int) (rd l (i : Int)) l (l.length : Int) (i : Int) l (l.length : Int) (q : Int) = some r ∧ ∀ c, q ≤ c → c < i → (b l i).testBit (b l c).log2 = false) := by
  have hbi := (hR i (Nat.le_refl i)).le
  intro n
  induction n with
  | zero =>
    intro q k hq hk hf
    obtain ⟨k, rfl⟩ : ∃ m, k = m + 1 := ⟨k - 1, by omega⟩
    refine .inr ⟨?_, fun c h1 h2 => by omega⟩
    rw [impl_isBasis.l1, if_neg (by omega), show wrap64 ((i : Int) + 1) = (i : Int) + 1 from wrapi (by omega) (by omega)]
    exact hf k (by omega)
  | succ n ih =>
    intro q k hq hk hf
    obtain ⟨k, rfl⟩ : ∃ m, k = m + 1 := ⟨k - 1, by omega⟩
    have ih' := ih (q + 1) k (by omega) (by omega) hf
    rw [impl_isBasis.l1, if_pos (by omega), if_pos (by omega), if_pos (by omega), show ((q : Int) + 1) = ((q + 1 : Nat) : Int) from rfl, wrapn (q + 1) (by omega)]
    by_cases hqi : q < i
    · have hrq := hR q (by omega)
      have hbq := hrq.le
      rw [if_pos (by omega), hrq.eq, top_f _ hbq.1 hbq.2, (hR i (Nat.le_refl i)).eq]
      simp only [bs]
      rw [has_f _ _ (by omega)]
      simp only [bs]
      rw [← (hR i (Nat.le_refl i)).eq]
      cases hb : (b l i).testBit (b l q).log2 with
      | true => exact .inl ⟨if_pos rfl, q, Nat.le_refl q, hqi, hb⟩
      | false =>
        rw [if_neg (by decide)]
        rcases ih' with ⟨h1, c, h2, h3, h4⟩ | ⟨h1, h2⟩
        · exact .inl ⟨h1, c, by omega, h3, h4⟩
        · refine .inr ⟨h1, fun c h3 h4 => ?_⟩
          by_cases e : c = q
          · subst e; exact hb
          · exact h2 c (by omega) h4
    · rw [if_neg (by omega)]
      rcases ih' with ⟨h1, c, h2, h3, h4⟩ | ⟨h1, h2⟩
      · exact .inl ⟨h1, c, by omega, h3, h4⟩
      · exact .inr ⟨h1, fun c h3 h4 => h2 c (by omega) h4⟩
theorem impl_l0 (l : List Int) (hl : l.length < 2 ^ 40) : ∀ n i k, i + n = l.length → n * (l.length + 10) + 10 < k → (∀ j, j < i → OKj l j) →
    ∃ r, impl_isBasis.l0 k l l (l.length : Int) (i : Int) = some r ∧ (r = true ↔ ∀ j, j < l.length → OKj l j) := by
  intro n
  induction n with
  | zero =>
    intro i k hi hk hO
    obtain ⟨k, rfl⟩ : ∃ m, k = m + 1 := ⟨k - 1, by omega⟩
    exact ⟨true, by rw [impl_isBasis.l0, if_neg (by omega)], ⟨fun _ j hj => hO j (by omega), fun _ => rfl⟩⟩
  | succ n ih =>
    intro i k hi hk hO
    obtain ⟨k, rfl⟩ : ∃ m, k = m + 1 := ⟨k - 1, by omega⟩
    rw [Nat.succ_mul] at hk
    have hli : i < l.length := by omega
    rw [impl_isBasis.l0, if_pos (by omega), if_pos (by omega), if_pos (by omega), show (16 : Int) = ((16 : Nat) : Int) from rfl, whole_f 16 (by decide)]
    simp only [bs]
    rw [in_f]
    simp only [bs]
    by_cases hr : inR l i
    · rw [decide_eq_true (show 1 ≤ rd l (i : Int) ∧ rd l (i : Int) ≤ ((2 ^ 16 - 1 : Nat) : Int) from hr), if_pos rfl]
      have hR : ∀ j, j ≤ i → inR l j := fun j hj => by
        by_cases e : j = i
        · subst e; exact hr
        · exact (hO j (by omega)).1
      obtain ⟨k, rfl⟩ : ∃ m, k = m + 1 := ⟨k - 1, by omega⟩
      -- behind the test of the greatest elements
      have key : (0 < i → (b l (i - 1)).log2 < (b l i).log2) → ∃ r, impl_isBasis.j1 (k + 1) l (i : Int) (rd l (i : Int)) l (l.length : Int) (i : Int) false = some r ∧ (r = true ↔ ∀ j, j < l.length → OKj l j) := by
        intro htop
        rw [impl_isBasis.j1, if_neg (by decide)]
        obtain ⟨K, hK⟩ : ∃ K, K = n * (l.length + 10) + 11 := ⟨_, rfl⟩
        by_cases hall : ∀ c, c < i → (b l i).testBit (b l c).log2 = false
        · have hO' : ∀ j, j < i + 1 → OKj l j := fun j hj => by
            by_cases e : j = i
            · subst e; exact ⟨hr, htop, hall⟩
            · exact hO j (by omega)
          obtain ⟨r, _, h2⟩ := ih (i + 1) K (by omega) (by omega) hO'
          have hsame : ∀ k', K ≤ k' → impl_isBasis.l0 k' l l (l.length : Int) ((i : Int) + 1) = some r := fun k' hk' => by
            obtain ⟨r', h3, h4⟩ := ih (i + 1) k' (by omega) (by omega) hO'
            have : r' = r := by rw [Bool.eq_iff_iff, h4, h2]
            rw [← this]; exact h3
          rcases impl_l1 l i hli hl hR r K l.length 0 k (by omega) (by omega) hsame with ⟨_, c, _, h6, h7⟩ | ⟨h5, _⟩
          · rw [hall c h6] at h7; cases h7
          · exact ⟨r, h5, h2⟩
        · have hF : ¬ ∀ j, j < l.length → OKj l j := fun h => hall fun c hc => (h i hli).2.2 c hc
          -- whatever the next place says
          obtain ⟨c, hc⟩ := Classical.not_forall.1 hall
          obtain ⟨hci, hcb⟩ := Classical.not_imp.1 hc
          have h8 : ∀ n q k, q + n = l.length → n < k → q ≤ c → impl_isBasis.l1 k l (i : Int) (rd l (i : Int)) l (l.length : Int) (i : Int) l (l.length : Int) (q : Int) = some false := by
            intro n
            induction n with
            | zero => intro q k hq hk hqc; omega
            | succ n ihn =>
              intro q k hq hk hqc
              obtain ⟨k, rfl⟩ : ∃ m, k = m + 1 := ⟨k - 1, by omega⟩
              have hrq := hR q (by omega)
              have hbq := hrq.le
              have hbi := hr.le
              rw [impl_isBasis.l1, if_pos (by omega), if_pos (by omega), if_pos (by omega), show ((q : Int) + 1) = ((q + 1 : Nat) : Int) from rfl, wrapn (q + 1) (by omega), if_pos (by omega), hrq.eq, top_f _ hbq.1 hbq.2, hr.eq]
              simp only [bs]
              rw [has_f _ _ (by omega)]
              simp only [bs]
              rw [← hr.eq]
              by_cases hb : (b l i).testBit (b l q).log2 = true
              · rw [if_pos hb]
              · rw [if_neg hb]
                have hne : q ≠ c := fun e => by subst e; exact hcb (Bool.eq_false_iff.2 hb)
                exact ihn (q + 1) k (by omega) (by omega) (by omega)
          exact ⟨false, h8 l.length 0 k (by omega) (by omega) (Nat.zero_le _), ⟨fun h => (by cases h), fun h => absurd h hF⟩⟩
      by_cases h0 : 0 < i
      · have hrp := hR (i - 1) (by omega)
        have hbp := hrp.le
        have hbi := hr.le
        have hw : wrap64 ((i : Int) - 1) = ((i - 1 : Nat) : Int) := by unfold wrap64; omega
        rw [if_pos (by omega), hw, if_pos (by omega), if_pos (by omega), hrp.eq, top_f _ hbp.1 hbp.2]
        simp only [bs]
        rw [show impl_top.f (rd l (i : Int)) = some (((b l i).log2 : Nat) : Int) by rw [hr.eq]; exact top_f _ hbi.1 hbi.2]
        simp only [bs]
        by_cases ht : (b l (i - 1)).log2 < (b l i).log2
        · rw [decide_eq_false (by omega)]
          exact key fun _ => ht
        · rw [decide_eq_true (by omega), impl_isBasis.j1, if_pos rfl]
          exact ⟨false, rfl, ⟨fun h => (by cases h), fun h => absurd ((h i hli).2.1 h0) ht⟩⟩
      · rw [if_neg (by omega)]
        exact key fun h => absurd h h0
    · rw [decide_eq_false (show ¬ (1 ≤ rd l (i : Int) ∧ rd l (i : Int) ≤ ((2 ^ 16 - 1 : Nat) : Int)) from hr), if_neg (by decide)]
      obtain ⟨k, rfl⟩ : ∃ m, k = m + 1 := ⟨k - 1, by omega⟩
      rw [impl_isBasis.j1, if_pos rfl]
      exact ⟨false, rfl, ⟨fun h => (by cases h), fun h => absurd (h i hli).1 hr⟩⟩

/-! ### The reference -/
theorem rd_drop (l : List Int) (i q : Nat) : rd (l.drop i) (q : Int) = rd l ((i + q : Nat) : Int) := by
  unfold rd
  rw [Int.toNat_natCast, Int.toNat_natCast, List.getD_eq_getElem?_getD, List.getD_eq_getElem?_getD, List.getElem?_drop]
theorem spec_l1 (l : List Int) (i : Nat) (hi : i < l.length) (hl : l.length < 2 ^ 40) (hR : ∀ j, j < l.length → inR l j) (Q : Option Bool → Prop) (K : Nat) (hK : 63 ≤ K) : ∀ n q k, q + n = l.length - (i + 1) → n + K < k →
    ((∃ c, i < c ∧ c < l.length ∧ (b l c).testBit (b l i).log2 = true) → Q (some false)) →
    ((∀ c, q ≤ c → c < l.length - (i + 1) → (b l (i + 1 + c)).testBit (b l i).log2 = false) → ∀ k', K ≤ k' → Q (spec_soBasis.l0 k' l l (l.length : Int) ((i : Int) + 1))) →
    Q (spec_soBasis.l1 k l (rd l (i : Int)) l (l.length : Int) (i : Int) (l.drop (i + 1)) ((l.drop (i + 1)).length : Int) (q : Int)) := by
  have hbi := (hR i hi).le
  intro n
  induction n with
  | zero =>
    intro q k hq hk _ hf
    obtain ⟨k, rfl⟩ : ∃ m, k = m + 1 := ⟨k - 1, by omega⟩
    rw [spec_soBasis.l1, if_neg (by rw [List.length_drop]; omega), show wrap64 ((i : Int) + 1) = (i : Int) + 1 from wrapi (by omega) (by omega)]
    exact hf (fun c h1 h2 => by omega) k (by omega)
  | succ n ih =>
    intro q k hq hk hF hf
    obtain ⟨k, rfl⟩ : ∃ m, k = m + 1 := ⟨k - 1, by omega⟩
    have hrq := hR (i + 1 + q) (by omega)
    have hbq := hrq.le
    rw [spec_soBasis.l1, if_pos (by rw [List.length_drop]; omega), if_pos (by omega), if_pos (by rw [List.length_drop]; omega), (hR i hi).eq, soTop_f _ (by omega) k (by omega)]
    simp only [bs]
    rw [topI_pos hbi.1, rd_drop, hrq.eq, grIn_f _ _ (by omega)]
    simp only [bs]
    rw [← (hR i hi).eq, show ((q : Int) + 1) = ((q + 1 : Nat) : Int) from rfl, wrapn (q + 1) (by omega)]
    cases hb : (b l (i + 1 + q)).testBit (b l i).log2 with
    | true =>
      rw [if_pos rfl]
      exact hF ⟨i + 1 + q, by omega, by omega, hb⟩
    | false =>
      rw [if_neg (by decide)]
      exact ih (q + 1) k (by omega) (by omega) hF fun h => hf fun c h1 h2 => by
        by_cases e : c = q
        · subst e; exact hb
        · exact h c (by omega) h2
theorem spec_l0 (l : List Int) (hl : l.length ≤ 16) (hR : ∀ j, j < l.length → inR l j) : ∀ n i k, i + n = l.length → n * 30 + 100 < k → (∀ j, j < i → Sj l j) →
    ∃ r, spec_soBasis.l0 k l l (l.length : Int) (i : Int) = some r ∧ (r = true ↔ ∀ j, j < l.length → Sj l j) := by
  intro n
  induction n with
  | zero =>
    intro i k hi hk hO
    obtain ⟨k, rfl⟩ : ∃ m, k = m + 1 := ⟨k - 1, by omega⟩
    exact ⟨true, by rw [spec_soBasis.l0, if_neg (by omega)], ⟨fun _ j hj => hO j (by omega), fun _ => rfl⟩⟩
  | succ n ih =>
    intro i k hi hk hO
    obtain ⟨k, rfl⟩ : ∃ m, k = m + 1 := ⟨k - 1, by omega⟩
    have hli : i < l.length := by omega
    have hr := hR i hli
    have hbi := hr.le
    rw [spec_soBasis.l0, if_pos (by omega), if_pos (by omega), if_pos (by omega)]
    obtain ⟨k, rfl⟩ : ∃ m, k = m + 1 := ⟨k - 1, by omega⟩
    have key : (0 < i → (b l (i - 1)).log2 < (b l i).log2) → ∃ r, spec_soBasis.j2 (k + 1) l (i : Int) (rd l (i : Int)) l (l.length : Int) (i : Int) false = some r ∧ (r = true ↔ ∀ j, j < l.length → Sj l j) := by
      intro htop
      have hw : wrap64 ((i : Int) + 1) = ((i + 1 : Nat) : Int) := by rw [show ((i : Int) + 1) = ((i + 1 : Nat) : Int) from rfl, wrapn _ (by omega)]
      rw [spec_soBasis.j2, if_neg (by decide), hw, if_pos (by omega), if_pos (by omega), Int.toNat_natCast]
      obtain ⟨K, hK⟩ : ∃ K, K = n * 30 + 101 := ⟨_, rfl⟩
      refine spec_l1 l i hli (by omega) hR (fun o => ∃ r, o = some r ∧ (r = true ↔ ∀ j, j < l.length → Sj l j)) K (by omega) (l.length - (i + 1)) 0 k (by omega) (by omega) ?_ ?_
      · rintro ⟨c, h1, h2, h3⟩
        exact ⟨false, rfl, ⟨fun h => (by cases h), fun h => by
          have := (h i hli).2 c h1 h2
          rw [h3] at this; cases this⟩⟩
      · intro hall k' hk'
        refine ih (i + 1) k' (by omega) (by omega) fun j hj => ?_
        by_cases e : j = i
        · subst e
          refine ⟨htop, fun c h1 h2 => ?_⟩
          have := hall (c - (j + 1)) (Nat.zero_le _) (by omega)
          rwa [show j + 1 + (c - (j + 1)) = c by omega] at this
        · exact hO j (by omega)
    by_cases h0 : 0 < i
    · have hrp := hR (i - 1) (by omega)
      have hbp := hrp.le
      have hw : wrap64 ((i : Int) - 1) = ((i - 1 : Nat) : Int) := by unfold wrap64; omega
      rw [if_pos (by omega), hw, if_pos (by omega), if_pos (by omega), hrp.eq, soTop_f _ (by omega) _ (by omega)]
      simp only [bs]
      rw [show spec_soTop.f (k + 1) (rd l (i : Int)) = some (topI (b l i)) by rw [hr.eq]; exact soTop_f _ (by omega) _ (by omega), topI_pos hbp.1, topI_pos hbi.1]
      simp only [bs]
      by_cases ht : (b l (i - 1)).log2 < (b l i).log2
      · rw [decide_eq_false (by omega)]
        exact key fun _ => ht
      · rw [decide_eq_true (by omega), spec_soBasis.j2, if_pos rfl]
        exact ⟨false, rfl, ⟨fun h => (by cases h), fun h => absurd ((h i hli).1 h0) ht⟩⟩
    · rw [if_neg (by omega)]
      exact key fun h => absurd h h0
theorem rise_len (l : List Int) (h : ∀ j, j < l.length → OKj l j) : l.length ≤ 16 := by
  have h1 : ∀ j, j < l.length → j ≤ (b l j).log2 := by
    intro j
    induction j with
    | zero => intro _; exact Nat.zero_le _
    | succ j ih =>
      intro hj
      have h2 := (h (j + 1) hj).2.1 (by omega)
      rw [show j + 1 - 1 = j from rfl] at h2
      have := ih (by omega)
      omega
  rcases Nat.eq_zero_or_pos l.length with h0 | h0
  · omega
  · have h2 := h1 (l.length - 1) (by omega)
    have h3 := (h (l.length - 1) (by omega)).1.le
    have h4 : (b l (l.length - 1)).log2 < 16 := (Nat.log2_lt (by omega)).2 h3.2
    omega
theorem range_iff (l : List Int) : (∀ x ∈ l, (1 : Int) ≤ x ∧ x ≤ 65535) ↔ ∀ j, j < l.length → inR l j := by
  constructor
  · intro h j hj
    have := h _ (List.getElem_mem hj)
    unfold inR rd
    rw [Int.toNat_natCast, List.getD_eq_getElem?_getD, List.getElem?_eq_getElem hj]
    exact this
  · intro h x hx
    obtain ⟨j, hj, rfl⟩ := List.getElem_of_mem hx
    have := h j hj
    unfold inR rd at this
    rw [Int.toNat_natCast, List.getD_eq_getElem?_getD, List.getElem?_eq_getElem hj] at this
    exact this
theorem OK_iff (l : List Int) (hR : ∀ j, j < l.length → inR l j) : (∀ j, j < l.length → OKj l j) ↔ ∀ j, j < l.length → Sj l j :=
  ⟨fun h j hj => ⟨(h j hj).2.1, fun k h1 h2 => (h k h2).2.2 j h1⟩, fun h j hj => ⟨hR j hj, (h j hj).1, fun k hk => (h k (by omega)).2 j hk hj⟩⟩
theorem basis_both (l : List Int) (hl : l.length < 2 ^ 40) (k : Nat) (hk : l.length * (l.length + 10) + l.length + 1000 < k) : ∃ r, spec_soBasis.f k l = some r ∧ impl_isBasis.f k l = some r ∧ (r = true → ∀ j, j < l.length → OKj l j) := by
  obtain ⟨ri, h1, h2⟩ := impl_l0 l hl l.length 0 k (by omega) (by omega) (fun j hj => absurd hj (Nat.not_lt_zero j))
  obtain ⟨k, rfl⟩ : ∃ m, k = m + 1 := ⟨k - 1, by omega⟩
  unfold spec_soBasis.f impl_isBasis.f
  by_cases h16 : l.length ≤ 16
  · rw [if_neg (by omega)]
    have hall := l1All_f l 1 65535 (by omega) (k + 1) (by omega)
    rw [hall]
    simp only [bs]
    by_cases hR : ∀ j, j < l.length → inR l j
    · rw [decide_eq_true ((range_iff l).2 hR), spec_soBasis.j0, if_neg (by decide)]
      obtain ⟨rs, h3, h4⟩ := spec_l0 l h16 hR l.length 0 k (by omega) (by omega) (fun j hj => absurd hj (Nat.not_lt_zero j))
      have : rs = ri := by rw [Bool.eq_iff_iff, h4, h2, OK_iff l hR]
      exact ⟨ri, by rw [← this]; exact h3, h1, h2.1⟩
    · rw [decide_eq_false fun h => hR ((range_iff l).1 h), spec_soBasis.j0, if_pos (by decide)]
      have : ri = false := Bool.eq_false_iff.2 fun h => hR fun j hj => (h2.1 h j hj).1
      subst this
      exact ⟨false, rfl, h1, fun h => (by cases h)⟩
  · rw [if_pos (by omega), spec_soBasis.j0, if_pos rfl]
    have : ri = false := Bool.eq_false_iff.2 fun h => h16 (rise_len l (h2.1 h))
    subst this
    exact ⟨false, rfl, h1, fun h => (by cases h)⟩
theorem both (l : List Int) (hl : l.length < 2 ^ 40) (s : Int) (k : Nat) (hk : l.length * (l.length + 10) + l.length + 1000 < k) : ∃ r, spec_ReducedSet.f k l s = some r ∧ impl_ReducedSet.f k l s = some r := by
  obtain ⟨r, h1, h2, h3⟩ := basis_both l hl k hk
  unfold spec_ReducedSet.f impl_ReducedSet.f
  rw [h1, h2, show (16 : Int) = ((16 : Nat) : Int) from rfl, whole_f 16 (by decide)]
  simp only [bs]
  rw [l1In_f, in_f]
  simp only [bs]
  cases r with
  | false => exact ⟨(0, false), if_neg (by decide), if_neg (by decide)⟩
  | true =>
    rw [if_pos rfl, if_pos rfl]
    have hO := h3 rfl
    have h16 := rise_len l hO
    by_cases hs : 0 ≤ s ∧ s ≤ 65535
    · rw [decide_eq_true hs, decide_eq_true (show 0 ≤ s ∧ s ≤ ((2 ^ 16 - 1 : Nat) : Int) from hs), if_pos rfl, if_pos rfl]
      obtain ⟨s, rfl⟩ := Int.eq_ofNat_of_zero_le hs.1
      have hm : ∀ x ∈ l, (1 : Int) ≤ x ∧ x ≤ 65535 := (range_iff l).2 fun j hj => (hO j hj).1
      have hz : zs (l.map Int.toNat) = l := zs_of fun x hx => by have := hm x hx; omega
      have hlen : (l.map Int.toNat).length = l.length := List.length_map ..
      have hB : ∀ x ∈ l.map Int.toNat, 1 ≤ x ∧ x < 2 ^ 62 := fun x hx => by
        obtain ⟨y, hy, rfl⟩ := List.mem_map.1 hx
        have := hm y hy
        omega
      have hsr := soRed_f (l.map Int.toNat) hB (by omega) s k (by omega) (by omega)
      rw [hz] at hsr
      have hok : rdOk l (s : Int) = true := by
        unfold rdOk
        rw [Bool.and_eq_true, Bool.and_eq_true, List.all_eq_true, decide_eq_true_eq, decide_eq_true_eq]
        exact ⟨⟨fun x hx => decide_eq_true (by have := hm x hx; omega), by omega⟩, by omega⟩
      rw [hsr]
      unfold impl_reduced.f
      rw [if_pos hok, Int.toNat_natCast]
      simp only [bs]
      exact ⟨_, rfl, rfl⟩
    · rw [decide_eq_false hs, decide_eq_false (show ¬ (0 ≤ s ∧ s ≤ ((2 ^ 16 - 1 : Nat) : Int)) from hs)]
      exact ⟨(0, false), if_neg (by decide), if_neg (by decide)⟩
theorem FnExactReducedSet : laws_FnExactReducedSet.Pure := by
  intro l s hl _ _ _
  unfold laws_FnExactReducedSet.f
  by_cases h : (l.length : Int) > 1048576
  · exact ⟨0, if_pos h⟩
  · obtain ⟨k, hk⟩ : ∃ k, k = l.length * (l.length + 10) + l.length + 1010 := ⟨_, rfl⟩
    obtain ⟨r, h1, h2⟩ := both l (by omega) s (k + 1) (by omega)
    refine ⟨k + 1, ?_⟩
    rw [if_neg h, toInt_f l (by omega) _ (by omega)]
    simp only [bs]
    rw [h1]
    simp only [bs]
    rw [h2]
    simp only [bs]
    rw [if_pos trivial, bne_self_eq_false, laws_FnExactReducedSet.j0, if_neg (by decide), toInt_f l (by omega) _ (by omega)]
    simp only [bs]
    rw [eqIntS_self l (by omega) _ (by omega)]
    simp only [bs, if_true]

end Go.Proofs.Ytgljddfglidjpaa.Pure
