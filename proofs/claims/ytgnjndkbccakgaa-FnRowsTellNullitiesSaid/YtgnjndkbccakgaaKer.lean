/- Plain linear algebra over two elements, a solver: pairs of an effect and presses, quiet patterns; what they span. No program here. -/
import Derived.Test.YtgnjndkbccakgaaLin
namespace Go.Proofs.Ytgnjndkbccakgaa.Ker
open Go.Proofs.Ytgnjndkbccakgaa.Lin

theorem gD_lt {α : Type} (l : List α) (d : α) {i : Nat} (h : i < l.length) : l.getD i d = l[i] := by rw [List.getD_eq_getElem?_getD, List.getElem?_eq_getElem h]; rfl
theorem gD_ge {α : Type} (l : List α) (d : α) {i : Nat} (h : l.length ≤ i) : l.getD i d = d := by rw [List.getD_eq_getElem?_getD, List.getElem?_eq_none h]; rfl
theorem gD_left {α : Type} (l m : List α) (d : α) {i : Nat} (h : i < l.length) : (l ++ m).getD i d = l.getD i d := by rw [List.getD_eq_getElem?_getD, List.getD_eq_getElem?_getD, List.getElem?_append_left h]
theorem gD_last {α : Type} (l : List α) (x d : α) : (l ++ [x]).getD l.length d = x := by rw [List.getD_eq_getElem?_getD, List.getElem?_append_right (Nat.le_refl _), Nat.sub_self]; rfl
/-! ### Sums of pairs -/
def Sq : List (Nat × Nat) → Nat → Nat → Prop
  | [], l, p => l = 0 ∧ p = 0
  | b :: B, l, p => Sq B l p ∨ Sq B (l ^^^ b.1) (p ^^^ b.2)

theorem Sq.zero : ∀ B, Sq B 0 0
  | [] => ⟨rfl, rfl⟩
  | _ :: B => .inl (Sq.zero B)
theorem Sq.add : ∀ {B : List (Nat × Nat)} {l p l' p' : Nat}, Sq B l p → Sq B l' p' → Sq B (l ^^^ l') (p ^^^ p')
  | [], _, _, _, _, hx, hy => by
    obtain ⟨rfl, rfl⟩ := hx
    obtain ⟨rfl, rfl⟩ := hy
    exact ⟨rfl, rfl⟩
  | b :: B, l, p, l', p', hx, hy => by
    rcases hx with hx | hx <;> rcases hy with hy | hy
    · exact .inl (Sq.add hx hy)
    · exact .inr (by have := Sq.add hx hy; rwa [← Nat.xor_assoc, ← Nat.xor_assoc] at this)
    · exact .inr (by have := Sq.add hx hy; rwa [x3, x3 p] at this)
    · exact .inl (by have := Sq.add hx hy; rwa [x4, x4] at this)
theorem Sq.mem : ∀ {B : List (Nat × Nat)} {b : Nat × Nat}, b ∈ B → Sq B b.1 b.2
  | c :: B, b, h => by
    rcases List.mem_cons.1 h with rfl | h
    · exact .inr (by rw [Nat.xor_self, Nat.xor_self]; exact Sq.zero B)
    · exact .inl (Sq.mem h)
theorem Sq.least {B : List (Nat × Nat)} {P : Nat → Nat → Prop} (h0 : P 0 0) (ha : ∀ l p l' p', P l p → P l' p' → P (l ^^^ l') (p ^^^ p')) (hB : ∀ b ∈ B, P b.1 b.2) : ∀ {l p}, Sq B l p → P l p := by
  induction B with
  | nil => rintro l p ⟨rfl, rfl⟩; exact h0
  | cons b B ih =>
    intro l p hx
    have hB' : ∀ c ∈ B, P c.1 c.2 := fun c hc => hB c (List.mem_cons_of_mem _ hc)
    rcases hx with hx | hx
    · exact ih hB' hx
    · have := ha _ _ _ _ (ih hB' hx) (hB b (List.mem_cons_self ..))
      rwa [xx, xx] at this
theorem Sq.mono {B C : List (Nat × Nat)} (h : ∀ b ∈ B, b ∈ C) {l p : Nat} (hx : Sq B l p) : Sq C l p :=
  Sq.least (P := Sq C) (Sq.zero C) (fun _ _ _ _ => Sq.add) (fun b hb => Sq.mem (h b hb)) hx

/-- The effects are not 0, and their greatest elements differ. -/
structure Dis (B : List (Nat × Nat)) : Prop where
  ne : ∀ b ∈ B, b.1 ≠ 0
  top : B.Pairwise fun b c => b.1.log2 ≠ c.1.log2
theorem Dis.nil : Dis [] := ⟨(fun _ h => by cases h), List.Pairwise.nil⟩
theorem Dis.snoc {B : List (Nat × Nat)} (h : Dis B) {l p : Nat} (hl : l ≠ 0) (hn : ∀ b ∈ B, b.1.log2 ≠ l.log2) : Dis (B ++ [(l, p)]) where
  ne b hb := by
    rcases List.mem_append.1 hb with hb | hb
    · exact h.ne b hb
    · rw [List.mem_singleton.1 hb]; exact hl
  top := by
    rw [List.pairwise_append]
    exact ⟨h.top, List.pairwise_singleton .., fun b hb c hc => by rw [List.mem_singleton.1 hc]; exact hn b hb⟩

theorem xor_top {a b : Nat} (_ : a ≠ 0) (_ : b ≠ 0) (h : a.log2 ≠ b.log2) : a ^^^ b ≠ 0 ∧ ((a ^^^ b).log2 = a.log2 ∨ (a ^^^ b).log2 = b.log2) := by
  refine ⟨fun e => h (by rw [xeq e]), ?_⟩
  rcases Nat.lt_or_gt_of_ne h with h | h
  · exact .inr (by rw [Nat.xor_comm]; exact top_xor_lt h)
  · exact .inl (top_xor_lt h)

/-- A sum of pairs without effect is none of them; the greatest element of another one's effect is one of theirs. -/
theorem Sq.tops {B : List (Nat × Nat)} (h : Dis B) {l p : Nat} (hx : Sq B l p) : (l = 0 → p = 0) ∧ (l ≠ 0 → ∃ b ∈ B, b.1.log2 = l.log2) := by
  induction B generalizing l p with
  | nil => obtain ⟨rfl, rfl⟩ := hx; exact ⟨fun _ => rfl, fun h => absurd rfl h⟩
  | cons c B ih =>
    have hp := List.pairwise_cons.1 h.top
    have hB : Dis B := ⟨fun b hb => h.ne b (List.mem_cons_of_mem _ hb), hp.2⟩
    have hc := h.ne c (List.mem_cons_self ..)
    rcases hx with hx | hx
    · refine ⟨(ih hB hx).1, fun h0 => ?_⟩
      obtain ⟨b, hb, e⟩ := (ih hB hx).2 h0
      exact ⟨b, List.mem_cons_of_mem _ hb, e⟩
    · obtain ⟨i1, i2⟩ := ih hB hx
      by_cases e : l ^^^ c.1 = 0
      · obtain rfl := xeq e
        exact ⟨fun h0 => absurd h0 hc, fun _ => ⟨c, List.mem_cons_self .., rfl⟩⟩
      · obtain ⟨b, hb, e1⟩ := i2 e
        have ht := xor_top e hc (by rw [← e1]; exact fun e => hp.1 b hb e.symm)
        rw [xx] at ht
        refine ⟨fun h0 => absurd h0 ht.1, fun _ => ?_⟩
        rcases ht.2 with h2 | h2
        · exact ⟨b, List.mem_cons_of_mem _ hb, by rw [e1, h2]⟩
        · exact ⟨c, List.mem_cons_self .., h2.symm⟩

/-! ### The effect of presses -/
def mp (es : List Nat) (x : Nat) : Nat → Nat
  | 0 => 0
  | i + 1 => if x.testBit i then mp es x i ^^^ es.getD i 0 else mp es x i
theorem mp_xor (es : List Nat) (x y : Nat) : ∀ k, mp es (x ^^^ y) k = mp es x k ^^^ mp es y k
  | 0 => (Nat.xor_self 0).symm
  | k + 1 => by
    have ih := mp_xor es x y k
    unfold mp
    rw [ih, Nat.testBit_xor]
    cases x.testBit k <;> cases y.testBit k
    · rfl
    · exact Nat.xor_assoc ..
    · exact x3 ..
    · exact (x4 (mp es x k) (mp es y k) (es.getD k 0)).symm
theorem mp_zero (es : List Nat) : ∀ k, mp es 0 k = 0
  | 0 => rfl
  | k + 1 => by unfold mp; rw [Nat.zero_testBit, mp_zero es k]; rfl
theorem mp_low (es : List Nat) {x n : Nat} (hx : x < 2 ^ n) : ∀ k, mp es x (n + k) = mp es x n
  | 0 => rfl
  | k + 1 => by
    rw [← Nat.add_assoc]
    show (if x.testBit (n + k) then _ else _) = _
    rw [Nat.testBit_lt_two_pow (Nat.lt_of_lt_of_le hx (Nat.pow_le_pow_right (by decide) (Nat.le_add_right ..))), mp_low es hx k]; rfl
theorem mp_le (es : List Nat) {x n m : Nat} (hx : x < 2 ^ n) (h : n ≤ m) : mp es x m = mp es x n := by
  obtain ⟨k, rfl⟩ := Nat.exists_eq_add_of_le h
  exact mp_low es hx k
theorem mp_append (es : List Nat) (e x : Nat) : ∀ k, k ≤ es.length → mp (es ++ [e]) x k = mp es x k
  | 0, _ => rfl
  | k + 1, h => by
    unfold mp
    rw [mp_append es e x k (by omega), gD_left _ _ _ (by omega)]
theorem mp_pow (es : List Nat) {i : Nat} : mp es (2 ^ i) (i + 1) = es.getD i 0 := by
  have h : ∀ k, k ≤ i → mp es (2 ^ i) k = 0 := by
    intro k
    induction k with
    | zero => intro _; rfl
    | succ k ih =>
      intro hk
      unfold mp
      rw [Nat.testBit_two_pow_of_ne (by omega), ih (by omega)]; rfl
  unfold mp
  rw [Nat.testBit_two_pow_self, h i (Nat.le_refl _), Nat.zero_xor]; rfl
theorem mp_lt {es : List Nat} {n : Nat} (h : ∀ e ∈ es, e < 2 ^ n) (x : Nat) : ∀ k, mp es x k < 2 ^ n
  | 0 => Nat.two_pow_pos n
  | k + 1 => by
    unfold mp
    split
    · refine Nat.xor_lt_two_pow (mp_lt h x k) ?_
      rcases Nat.lt_or_ge k es.length with hk | hk
      · rw [gD_lt _ _ hk]; exact h _ (List.getElem_mem hk)
      · rw [gD_ge _ _ hk]; exact Nat.two_pow_pos n
    · exact mp_lt h x k
def Im (es : List Nat) (l : Nat) : Prop := ∃ x, x < 2 ^ es.length ∧ mp es x es.length = l
def Kn (es : List Nat) (x : Nat) : Prop := x < 2 ^ es.length ∧ mp es x es.length = 0

/-- A number below 2^(i+1) with element i, without it. -/
theorem drop_bit {x p i : Nat} (hx : x < 2 ^ (i + 1)) (hp : p < 2 ^ (i + 1)) (h1 : x.testBit i = true) (h2 : p.testBit i = true) : x ^^^ p < 2 ^ i := by
  apply Nat.lt_pow_two_of_testBit
  intro j hj
  rw [Nat.testBit_xor]
  rcases Nat.lt_or_eq_of_le hj with h | rfl
  · rw [Nat.testBit_lt_two_pow (Nat.lt_of_lt_of_le hx (Nat.pow_le_pow_right (by decide) h)), Nat.testBit_lt_two_pow (Nat.lt_of_lt_of_le hp (Nat.pow_le_pow_right (by decide) h))]; rfl
  · rw [h1, h2]; rfl
theorem no_bit {x i : Nat} (hx : x < 2 ^ (i + 1)) (h1 : x.testBit i = false) : x < 2 ^ i := by
  apply Nat.lt_pow_two_of_testBit
  intro j hj
  rcases Nat.lt_or_eq_of_le hj with h | rfl
  · exact Nat.testBit_lt_two_pow (Nat.lt_of_lt_of_le hx (Nat.pow_le_pow_right (by decide) h))
  · exact h1

/-! ### The solver -/
def img (es : List Nat) : List Nat := es.foldl putB []
theorem img_snoc (es : List Nat) (e : Nat) : img (es ++ [e]) = putB (img es) e := by simp [img]
theorem img_isB (es : List Nat) : IsB (img es) := by
  unfold img
  suffices h : ∀ B, IsB B → IsB (es.foldl putB B) from h [] IsB.nil
  induction es with
  | nil => intro B h; exact h
  | cons e es ih => intro B h; exact ih _ (putB_isB h e)

/-- What a solver of effects knows. -/
structure Inv (es : List Nat) (pairs : List (Nat × Nat)) (quiet : List Nat) : Prop where
  dis : Dis pairs
  isB : IsB quiet
  pr : ∀ b ∈ pairs, b.2 < 2 ^ es.length ∧ mp es b.2 es.length = b.1
  qt : ∀ q ∈ quiet, Kn es q
  span : ∀ x, x < 2 ^ es.length → ∃ l y, Sq pairs l y ∧ Sp quiet (x ^^^ y)
theorem Inv.start : Inv [] [] [] := ⟨Dis.nil, IsB.nil, (fun _ h => by cases h), (fun _ h => by cases h), fun x h => ⟨0, 0, ⟨rfl, rfl⟩, by
  have : x = 0 := by simpa using h
  subst this; rfl⟩⟩
/-- What pairs leave of lights, and with what presses. -/
def Reached (pairs : List (Nat × Nat)) (lights l p : Nat) : Prop := Sq pairs (lights ^^^ l) p ∧ (l = 0 ∨ ∀ b ∈ pairs, b.1.log2 ≠ l.log2)

theorem Inv.sq {es : List Nat} {pairs : List (Nat × Nat)} {quiet : List Nat} (h : Inv es pairs quiet) {l p : Nat} (hs : Sq pairs l p) : p < 2 ^ es.length ∧ mp es p es.length = l :=
  Sq.least (P := fun l p => p < 2 ^ es.length ∧ mp es p es.length = l) ⟨Nat.two_pow_pos _, mp_zero ..⟩
    (fun _ _ _ _ h1 h2 => ⟨Nat.xor_lt_two_pow h1.1 h2.1, by rw [mp_xor, h1.2, h2.2]⟩) h.pr hs
theorem Inv.sp {es : List Nat} {pairs : List (Nat × Nat)} {quiet : List Nat} (h : Inv es pairs quiet) {x : Nat} (hs : Sp quiet x) : Kn es x :=
  Sp.least (P := Kn es) ⟨Nat.two_pow_pos _, mp_zero ..⟩
    (fun _ _ h1 h2 => ⟨Nat.xor_lt_two_pow h1.1 h2.1, by rw [mp_xor, h1.2, h2.2]; rfl⟩) h.qt hs

theorem Kn.snoc {es : List Nat} {x : Nat} (e : Nat) (h : Kn es x) : Kn (es ++ [e]) x := by
  obtain ⟨h1, h2⟩ := h
  rw [Kn, List.length_append, List.length_singleton]
  refine ⟨Nat.lt_of_lt_of_le h1 (Nat.pow_le_pow_right (by decide) (Nat.le_succ _)), ?_⟩
  rw [mp_le _ h1 (Nat.le_succ _), mp_append _ _ _ _ (Nat.le_refl _), h2]

/-- The presses of a new button, with what they leave. -/
theorem Inv.press {es : List Nat} {pairs : List (Nat × Nat)} {quiet : List Nat} (h : Inv es pairs quiet) {e l p : Nat} (hr : Sq pairs (e ^^^ l) p) :
    p ^^^ 2 ^ es.length < 2 ^ (es.length + 1) ∧ (p ^^^ 2 ^ es.length).testBit es.length = true ∧ mp (es ++ [e]) (p ^^^ 2 ^ es.length) (es.length + 1) = l := by
  obtain ⟨h1, h2⟩ := h.sq hr
  have h3 : p < 2 ^ (es.length + 1) := Nat.lt_of_lt_of_le h1 (Nat.pow_le_pow_right (by decide) (Nat.le_succ _))
  refine ⟨Nat.xor_lt_two_pow h3 (Nat.pow_lt_pow_right (by decide) (Nat.lt_succ_self _)), ?_, ?_⟩
  · rw [Nat.testBit_xor, Nat.testBit_lt_two_pow h1, Nat.testBit_two_pow_self]; rfl
  · rw [mp_xor, mp_pow, mp_le _ h1 (Nat.le_succ _), mp_append _ _ _ _ (Nat.le_refl _), h2, gD_last]
    show e ^^^ l ^^^ e = l
    rw [Nat.xor_comm, ← Nat.xor_assoc, Nat.xor_self, Nat.zero_xor]

theorem Inv.quiet {es : List Nat} {pairs : List (Nat × Nat)} {quiet : List Nat} (h : Inv es pairs quiet) {e p : Nat} (hr : Sq pairs (e ^^^ 0) p) :
    Inv (es ++ [e]) pairs (putB quiet (p ^^^ 2 ^ es.length)) := by
  obtain ⟨h1, h2, h3⟩ := h.press hr
  generalize p ^^^ 2 ^ es.length = p' at *
  have hk : Kn (es ++ [e]) p' := by rw [Kn, List.length_append, List.length_singleton]; exact ⟨h1, h3⟩
  refine ⟨h.dis, putB_isB h.isB p', fun b hb => ?_, fun q hq => ?_, fun x hx => ?_⟩
  · obtain ⟨i1, i2⟩ := h.pr b hb
    rw [List.length_append, List.length_singleton]
    exact ⟨Nat.lt_of_lt_of_le i1 (Nat.pow_le_pow_right (by decide) (Nat.le_succ _)), by rw [mp_le _ i1 (Nat.le_succ _), mp_append _ _ _ _ (Nat.le_refl _), i2]⟩
  · have := (putB_sp h.isB p' q).1 (Sp.mem hq)
    refine Sp.least (P := Kn (es ++ [e])) ⟨Nat.two_pow_pos _, mp_zero ..⟩ (fun _ _ h1 h2 => ⟨Nat.xor_lt_two_pow h1.1 h2.1, by rw [mp_xor, h1.2, h2.2]; rfl⟩) ?_ this
    intro b hb
    rcases List.mem_cons.1 hb with rfl | hb
    · exact hk
    · exact (h.qt b hb).snoc e
  · rw [List.length_append, List.length_singleton] at hx
    cases hb : x.testBit es.length with
    | true =>
      obtain ⟨l, y, hs, hq⟩ := h.span _ (drop_bit hx h1 hb h2)
      refine ⟨l, y, hs, (putB_sp h.isB p' _).2 (.inr ?_)⟩
      rwa [x3] at hq
    | false =>
      obtain ⟨l, y, hs, hq⟩ := h.span _ (no_bit hx hb)
      exact ⟨l, y, hs, (putB_sp h.isB p' _).2 (.inl hq)⟩

theorem Inv.pair {es : List Nat} {pairs : List (Nat × Nat)} {quiet : List Nat} (h : Inv es pairs quiet) {e l p : Nat} (hl : l ≠ 0) (hr : Reached pairs e l p) :
    Inv (es ++ [e]) (pairs ++ [(l, p ^^^ 2 ^ es.length)]) quiet := by
  obtain ⟨h1, h2, h3⟩ := h.press hr.1
  have hn := hr.2.resolve_left hl
  generalize p ^^^ 2 ^ es.length = p' at *
  refine ⟨h.dis.snoc hl hn, h.isB, fun b hb => ?_, fun q hq => (h.qt q hq).snoc e, fun x hx => ?_⟩
  · rw [List.length_append, List.length_singleton]
    rcases List.mem_append.1 hb with hb | hb
    · obtain ⟨i1, i2⟩ := h.pr b hb
      exact ⟨Nat.lt_of_lt_of_le i1 (Nat.pow_le_pow_right (by decide) (Nat.le_succ _)), by rw [mp_le _ i1 (Nat.le_succ _), mp_append _ _ _ _ (Nat.le_refl _), i2]⟩
    · rw [List.mem_singleton.1 hb]; exact ⟨h1, h3⟩
  · rw [List.length_append, List.length_singleton] at hx
    cases hb : x.testBit es.length with
    | true =>
      obtain ⟨l', y, hs, hq⟩ := h.span _ (drop_bit hx h1 hb h2)
      exact ⟨l' ^^^ l, y ^^^ p', Sq.add (Sq.mono (fun b hb => List.mem_append_left _ hb) hs) (Sq.mem (b := (l, p')) (by simp)), by rwa [← Nat.xor_assoc, x3]⟩
    | false =>
      obtain ⟨l', y, hs, hq⟩ := h.span _ (no_bit hx hb)
      exact ⟨l', y, Sq.mono (fun b hb => List.mem_append_left _ hb) hs, hq⟩

/-- The quiet patterns span all presses without effect. -/
theorem Inv.kernel {es : List Nat} {pairs : List (Nat × Nat)} {quiet : List Nat} (h : Inv es pairs quiet) (x : Nat) : Sp quiet x ↔ Kn es x := by
  refine ⟨h.sp, fun ⟨h1, h2⟩ => ?_⟩
  obtain ⟨l, y, hs, hq⟩ := h.span x h1
  obtain ⟨i1, i2⟩ := h.sq hs
  have h3 := (h.sp hq).2
  rw [mp_xor, h2, i2, Nat.zero_xor] at h3
  rw [(hs.tops h.dis).1 h3, Nat.xor_zero] at hq
  exact hq
theorem Inv.solved {es : List Nat} {pairs : List (Nat × Nat)} {quiet : List Nat} (h : Inv es pairs quiet) {lights l p : Nat} (hr : Reached pairs lights l p) : l = 0 ↔ Im es lights := by
  obtain ⟨h1, h2⟩ := h.sq hr.1
  constructor
  · rintro rfl
    exact ⟨p, h1, by rw [h2, Nat.xor_zero]⟩
  · rintro ⟨x, hx, e⟩
    obtain ⟨l', y, hs, hq⟩ := h.span (x ^^^ p) (Nat.xor_lt_two_pow hx h1)
    obtain ⟨i1, i2⟩ := h.sq hs
    have h3 := (h.sp hq).2
    rw [mp_xor, mp_xor, e, h2, i2, xxl] at h3
    obtain rfl := xeq h3
    refine Decidable.byContradiction fun hl => ?_
    obtain ⟨b, hb, e2⟩ := (hs.tops h.dis).2 hl
    exact hr.2.resolve_left hl b hb e2
theorem Inv.presses {es : List Nat} {pairs : List (Nat × Nat)} {quiet : List Nat} (h : Inv es pairs quiet) {lights p : Nat} (hr : Reached pairs lights 0 p) : p < 2 ^ es.length ∧ mp es p es.length = lights := by
  have := h.sq hr.1
  rwa [Nat.xor_zero] at this
/-- Two sets of presses with one effect are one, but for quiet patterns. -/
theorem red_kernel {es : List Nat} {quiet : List Nat} (hB : IsB quiet) (hK : ∀ x, Sp quiet x ↔ Kn es x) {x y : Nat} (hx : x < 2 ^ es.length) (hy : y < 2 ^ es.length) (h : mp es x es.length = mp es y es.length) : red quiet x = red quiet y :=
  red_eq hB ((hK _).2 ⟨Nat.xor_lt_two_pow hx hy, by rw [mp_xor, h, Nat.xor_self]⟩)

/-- The sums of effects are the effects of presses. -/
theorem Sp_snoc (B : List Nat) (e x : Nat) : Sp (B ++ [e]) x ↔ Sp (e :: B) x := by
  constructor <;> intro h <;> refine Sp.mono (fun b hb => Sp.mem ?_) h <;> simp at hb ⊢ <;> exact hb.symm
theorem img_sp (es : List Nat) (x : Nat) : Sp (img es) x ↔ Sp es x := by
  have h : ∀ k, k ≤ es.length → ∀ x, Sp (img (es.take k)) x ↔ Sp (es.take k) x := by
    intro k
    induction k with
    | zero => intro _ x; rw [List.take_zero]; rfl
    | succ k ih =>
      intro hk x
      rw [List.take_succ_eq_append_getElem (by omega), img_snoc, putB_sp (img_isB _), Sp_snoc]
      exact or_congr (ih (by omega) _) (ih (by omega) _)
  have := h es.length (Nat.le_refl _) x
  rwa [List.take_length] at this
theorem Sp_im (es : List Nat) (l : Nat) : Sp es l ↔ Im es l := by
  constructor
  · refine Sp.least (P := Im es) ⟨0, Nat.two_pow_pos _, mp_zero ..⟩ ?_ ?_
    · rintro a b ⟨x, hx, rfl⟩ ⟨y, hy, rfl⟩
      exact ⟨x ^^^ y, Nat.xor_lt_two_pow hx hy, mp_xor ..⟩
    · intro e he
      obtain ⟨i, hi, rfl⟩ := List.getElem_of_mem he
      have h1 : 2 ^ i < 2 ^ (i + 1) := Nat.pow_lt_pow_right (by decide) (Nat.lt_succ_self _)
      exact ⟨2 ^ i, Nat.pow_lt_pow_right (by decide) hi, by rw [mp_le es h1 hi, mp_pow, gD_lt _ _ hi]⟩
  · rintro ⟨x, _, rfl⟩
    have h : ∀ k, k ≤ es.length → Sp es (mp es x k) := by
      intro k
      induction k with
      | zero => intro _; exact Sp.zero _
      | succ k ih =>
        intro hk
        unfold mp
        split
        · refine (ih (by omega)).add (Sp.mem ?_)
          rw [gD_lt _ _ hk]; exact List.getElem_mem hk
        · exact ih (by omega)
    exact h _ (Nat.le_refl _)
theorem img_zero (es : List Nat) (l : Nat) : red (img es) l = 0 ↔ Im es l := by
  rw [red_zero (img_isB es), img_sp, Sp_im]

/-! ### The reference's solver: the effect above, the presses below, in one number -/
theorem mulx (a b n : Nat) : (a ^^^ b) * 2 ^ n = a * 2 ^ n ^^^ b * 2 ^ n := by
  rw [← Nat.shiftLeft_eq, ← Nat.shiftLeft_eq, ← Nat.shiftLeft_eq, Nat.shiftLeft_xor_distrib]
theorem divx (a b n : Nat) : (a ^^^ b) / 2 ^ n = a / 2 ^ n ^^^ b / 2 ^ n := by
  rw [← Nat.shiftRight_eq_div_pow, ← Nat.shiftRight_eq_div_pow, ← Nat.shiftRight_eq_div_pow, Nat.shiftRight_xor_distrib]
def gg (es : List Nat) (n x : Nat) : Nat := mp es x n * 2 ^ n ^^^ x
theorem gg_div (es : List Nat) {n x : Nat} (hx : x < 2 ^ n) : gg es n x / 2 ^ n = mp es x n := by
  rw [gg, divx, Nat.mul_div_cancel _ (Nat.two_pow_pos n), Nat.div_eq_of_lt hx, Nat.xor_zero]
theorem gg_xor (es : List Nat) (n x y : Nat) : gg es n (x ^^^ y) = gg es n x ^^^ gg es n y := by
  unfold gg
  rw [mp_xor, mulx, Nat.xor_assoc, Nat.xor_assoc]
  congr 1
  rw [← Nat.xor_assoc, ← Nat.xor_assoc, Nat.xor_comm x]
theorem gg_zero (es : List Nat) (n : Nat) : gg es n 0 = 0 := by simp [gg, mp_zero]
theorem gg_low {es : List Nat} {n x : Nat} (hx : x < 2 ^ n) (h : gg es n x < 2 ^ n) : mp es x n = 0 ∧ gg es n x = x := by
  have h1 := gg_div es hx
  rw [Nat.div_eq_of_lt h] at h1
  exact ⟨h1.symm, by rw [gg, ← h1, Nat.zero_mul, Nat.zero_xor]⟩
theorem log_ge {b n : Nat} (h : 2 ^ n ≤ b) : n ≤ b.log2 := (Nat.le_log2 (by have := Nat.two_pow_pos n; omega)).2 h
theorem log_lt {b n : Nat} (h0 : b ≠ 0) (h : b < 2 ^ n) : b.log2 < n := (Nat.log2_lt h0).2 h

def refs (es : List Nat) (n : Nat) : Nat → List Nat × List Nat
  | 0 => ([], [])
  | k + 1 => if red (refs es n k).1 (es.getD k 0 * 2 ^ n ^^^ 2 ^ k) / 2 ^ n = 0 then ((refs es n k).1, putB (refs es n k).2 (red (refs es n k).1 (es.getD k 0 * 2 ^ n ^^^ 2 ^ k)))
    else (putB (refs es n k).1 (red (refs es n k).1 (es.getD k 0 * 2 ^ n ^^^ 2 ^ k)), (refs es n k).2)

structure Inr (es : List Nat) (n k : Nat) (P Q : List Nat) : Prop where
  isP : IsB P
  isQ : IsB Q
  hi : ∀ b ∈ P, 2 ^ n ≤ b
  inP : ∀ b, Sp P b → ∃ y, y < 2 ^ k ∧ b = gg es n y
  inQ : ∀ q, Sp Q q → q < 2 ^ k ∧ mp es q n = 0
  span : ∀ x, x < 2 ^ k → ∃ q, Sp Q q ∧ Sp P (gg es n x ^^^ q)
theorem Inr.start (es : List Nat) (n : Nat) : Inr es n 0 [] [] := ⟨IsB.nil, IsB.nil, (fun _ h => by cases h), (fun b h => ⟨0, Nat.two_pow_pos _, by rw [gg_zero]; exact h⟩),
  (fun q h => by have : q = 0 := h; subst this; exact ⟨Nat.two_pow_pos _, mp_zero ..⟩), fun x h => ⟨0, rfl, by
  have : x = 0 := by simpa using h
  subst this; rw [gg_zero]; rfl⟩⟩
theorem Inr.step {es : List Nat} {n k : Nat} {P Q : List Nat} (h : Inr es n k P Q) (hk : k < n) {t : Nat} (ht : t = gg es n (2 ^ k)) :
    (red P t / 2 ^ n = 0 → Inr es n (k + 1) P (putB Q (red P t))) ∧ (red P t / 2 ^ n ≠ 0 → Inr es n (k + 1) (putB P (red P t)) Q) := by
  obtain ⟨y, hy, e⟩ := h.inP _ (red_sp P t)
  have hle : 2 ^ k < 2 ^ (k + 1) := Nat.pow_lt_pow_right (by decide) (Nat.lt_succ_self _)
  have hp1 : 2 ^ k ^^^ y < 2 ^ (k + 1) := Nat.xor_lt_two_pow hle (Nat.lt_trans hy hle)
  have hp2 : (2 ^ k ^^^ y).testBit k = true := by rw [Nat.testBit_xor, Nat.testBit_two_pow_self, Nat.testBit_lt_two_pow hy]; rfl
  have hs : red P t = gg es n (2 ^ k ^^^ y) := by rw [gg_xor, ← ht, ← e, xxl]
  generalize 2 ^ k ^^^ y = p at hp1 hp2 hs
  have hpn : p < 2 ^ n := Nat.lt_of_lt_of_le hp1 (Nat.pow_le_pow_right (by decide) hk)
  have hbit := red_bit h.isP t
  generalize red P t = s at hs hbit ⊢
  have hdiv : s / 2 ^ n = mp es p n := by rw [hs, gg_div es hpn]
  constructor
  · intro h0
    have hm : mp es p n = 0 := hdiv ▸ h0
    have hsp : s = p := by rw [hs, gg, hm, Nat.zero_mul, Nat.zero_xor]
    subst hsp
    refine ⟨h.isP, putB_isB h.isQ s, h.hi, fun b hb => ?_, fun q hq => ?_, fun x hx => ?_⟩
    · obtain ⟨z, hz, rfl⟩ := h.inP b hb
      exact ⟨z, Nat.lt_trans hz hle, rfl⟩
    · rcases (putB_sp h.isQ s q).1 hq with hq | hq
      · exact ⟨Nat.lt_trans (h.inQ q hq).1 hle, (h.inQ q hq).2⟩
      · obtain ⟨i1, i2⟩ := h.inQ _ hq
        have i3 : q = (q ^^^ s) ^^^ s := (xx q s).symm
        exact ⟨by rw [i3]; exact Nat.xor_lt_two_pow (Nat.lt_trans i1 hle) hp1, by rw [i3, mp_xor, i2, hm]; rfl⟩
    · cases hb : x.testBit k with
      | true =>
        obtain ⟨q, hq, hs2⟩ := h.span _ (drop_bit hx hp1 hb hp2)
        refine ⟨q ^^^ s, (putB_sp h.isQ s _).2 (.inr (by rw [xx]; exact hq)), ?_⟩
        rwa [gg_xor, ← hs, x3, Nat.xor_assoc] at hs2
      | false =>
        obtain ⟨q, hq, hs2⟩ := h.span _ (no_bit hx hb)
        exact ⟨q, (putB_sp h.isQ s _).2 (.inl hq), hs2⟩
  · intro h0
    have hr : red P s = s := red_self hbit
    have hne : s ≠ 0 := fun e => h0 (by rw [e, Nat.zero_div])
    have hge : 2 ^ n ≤ s := Nat.le_of_not_lt fun hlt => h0 (Nat.div_eq_of_lt hlt)
    have hpts := putB_puts h.isP (s := s) (by rw [hr]; exact hne)
    rw [hr] at hpts
    refine ⟨putB_isB h.isP s, h.isQ, fun b hb => ?_, fun b hb => ?_, fun q hq => ⟨Nat.lt_trans (h.inQ q hq).1 hle, (h.inQ q hq).2⟩, fun x hx => ?_⟩
    · rcases (hpts.mem b).1 hb with rfl | ⟨c, hc, rfl⟩
      · exact hge
      · have h1 := clr_top hne (hbit c hc)
        have h2 := clr_ne (h.isP.ne c hc) (hbit c hc)
        exact (Nat.le_log2 h2).1 (by rw [h1]; exact log_ge (h.hi c hc))
    · rcases (putB_sp h.isP s b).1 hb with hb | hb
      · obtain ⟨z, hz, rfl⟩ := h.inP b hb
        exact ⟨z, Nat.lt_trans hz hle, rfl⟩
      · obtain ⟨z, hz, e2⟩ := h.inP _ hb
        exact ⟨z ^^^ p, Nat.xor_lt_two_pow (Nat.lt_trans hz hle) hp1, by rw [gg_xor, ← e2, ← hs, xx]⟩
    · cases hb : x.testBit k with
      | true =>
        obtain ⟨q, hq, hs2⟩ := h.span _ (drop_bit hx hp1 hb hp2)
        refine ⟨q, hq, (putB_sp h.isP s _).2 (.inr ?_)⟩
        rwa [gg_xor, ← hs, x3] at hs2
      | false =>
        obtain ⟨q, hq, hs2⟩ := h.span _ (no_bit hx hb)
        exact ⟨q, hq, (putB_sp h.isP s _).2 (.inl hs2)⟩
theorem refs_inr (es : List Nat) : ∀ k, k ≤ es.length → Inr es es.length k (refs es es.length k).1 (refs es es.length k).2
  | 0, _ => Inr.start es _
  | k + 1, hk => by
    have ih := refs_inr es k (by omega)
    have hle : 2 ^ k < 2 ^ (k + 1) := Nat.pow_lt_pow_right (by decide) (Nat.lt_succ_self _)
    have hs := ih.step hk (t := es.getD k 0 * 2 ^ es.length ^^^ 2 ^ k) (by rw [gg, mp_le es hle hk, mp_pow])
    unfold refs
    split
    · rename_i h0; exact hs.1 h0
    · rename_i h0; exact hs.2 h0

def refQ (es : List Nat) : List Nat := (refs es es.length es.length).2
def refP (es : List Nat) : List Nat := (refs es es.length es.length).1
theorem refQ_isB (es : List Nat) : IsB (refQ es) := (refs_inr es _ (Nat.le_refl _)).isQ
theorem low_zero {n : Nat} {P : List Nat} (hP : IsB P) (hi : ∀ b ∈ P, 2 ^ n ≤ b) {x : Nat} (hx : Sp P x) (h : x < 2 ^ n) : x = 0 := by
  refine Decidable.byContradiction fun h0 => ?_
  obtain ⟨b, hb, e⟩ := Sp.top hP.ne hP.rise hx h0
  have := log_ge (hi b hb)
  have := log_lt h0 h
  omega
theorem refQ_kernel (es : List Nat) (x : Nat) : Sp (refQ es) x ↔ Kn es x := by
  have h := refs_inr es _ (Nat.le_refl _)
  refine ⟨fun hx => h.inQ x hx, fun ⟨h1, h2⟩ => ?_⟩
  obtain ⟨q, hq, hs⟩ := h.span x h1
  have hg : gg es es.length x = x := by rw [gg, h2, Nat.zero_mul, Nat.zero_xor]
  rw [hg] at hs
  rw [xeq (low_zero h.isP h.hi hs (Nat.xor_lt_two_pow h1 (h.inQ q hq).1))]
  exact hq
theorem refP_solved (es : List Nat) {lights : Nat} : red (refP es) (lights * 2 ^ es.length) / 2 ^ es.length = 0 ↔ Im es lights := by
  have h := refs_inr es _ (Nat.le_refl _)
  have hsp := red_sp (refP es) (lights * 2 ^ es.length)
  have hbit := red_bit h.isP (lights * 2 ^ es.length)
  change ∀ b ∈ refP es, (red (refP es) (lights * 2 ^ es.length)).testBit b.log2 = false at hbit
  generalize hs : red (refP es) (lights * 2 ^ es.length) = s at *
  constructor
  · intro h0
    have hlt : s < 2 ^ es.length := by
      have := Nat.div_add_mod s (2 ^ es.length)
      have := Nat.mod_lt s (Nat.two_pow_pos es.length)
      rw [h0] at *; omega
    obtain ⟨y, hy, e⟩ := h.inP _ hsp
    refine ⟨y, hy, ?_⟩
    have := gg_div es hy
    rw [← e, divx, Nat.mul_div_cancel _ (Nat.two_pow_pos _), h0, Nat.xor_zero] at this
    exact this.symm
  · rintro ⟨x, hx, e⟩
    refine Nat.div_eq_of_lt (Nat.lt_of_not_le fun hge => ?_)
    obtain ⟨q, hq, h2⟩ := h.span x hx
    have hqn := (h.inQ q hq).1
    have h3 := hsp.add h2
    rw [gg, e] at h3
    have h4 : lights * 2 ^ es.length ^^^ s ^^^ (lights * 2 ^ es.length ^^^ x ^^^ q) = s ^^^ (x ^^^ q) := by
      rw [Nat.xor_assoc _ x q, Nat.xor_comm (lights * 2 ^ es.length) s, Nat.xor_assoc, ← Nat.xor_assoc (lights * 2 ^ es.length) (lights * 2 ^ es.length), Nat.xor_self, Nat.zero_xor]
    rw [h4] at h3
    have hs0 : s ≠ 0 := by have := Nat.two_pow_pos es.length; omega
    have hxq : x ^^^ q < 2 ^ es.length := Nat.xor_lt_two_pow hx hqn
    have htop : s ^^^ (x ^^^ q) ≠ 0 ∧ (s ^^^ (x ^^^ q)).log2 = s.log2 := by
      by_cases hz : x ^^^ q = 0
      · rw [hz, Nat.xor_zero]; exact ⟨hs0, rfl⟩
      · have h5 : (x ^^^ q).log2 < s.log2 := Nat.lt_of_lt_of_le (log_lt hz hxq) (log_ge hge)
        exact ⟨(xor_top hs0 hz (by omega)).1, top_xor_lt h5⟩
    obtain ⟨b, hb, e2⟩ := Sp.top h.isP.ne h.isP.rise h3 htop.1
    have := hbit b hb
    rw [e2, htop.2, top_bit hs0] at this
    cases this
theorem refP_presses (es : List Nat) {lights : Nat} (h0 : red (refP es) (lights * 2 ^ es.length) / 2 ^ es.length = 0) :
    red (refP es) (lights * 2 ^ es.length) < 2 ^ es.length ∧ mp es (red (refP es) (lights * 2 ^ es.length)) es.length = lights := by
  have h := refs_inr es _ (Nat.le_refl _)
  have hsp := red_sp (refP es) (lights * 2 ^ es.length)
  generalize red (refP es) (lights * 2 ^ es.length) = s at *
  have hlt : s < 2 ^ es.length := by
    have := Nat.div_add_mod s (2 ^ es.length)
    have := Nat.mod_lt s (Nat.two_pow_pos es.length)
    rw [h0] at *; omega
  obtain ⟨y, hy, e⟩ := h.inP _ hsp
  have h1 := gg_div es hy
  rw [← e, divx, Nat.mul_div_cancel _ (Nat.two_pow_pos _), h0, Nat.xor_zero] at h1
  have h2 : s = y := by
    rw [gg, ← h1] at e
    have := congrArg (fun z => lights * 2 ^ es.length ^^^ z) e
    simpa [xxl] using this
  subst h2
  exact ⟨hlt, h1.symm⟩
/-- The solver's quiet patterns are the reference's. -/
theorem Inv.quiet_eq {es : List Nat} {pairs : List (Nat × Nat)} {quiet : List Nat} (h : Inv es pairs quiet) : quiet = refQ es :=
  IsB.unique h.isB (refQ_isB es) fun x => (h.kernel x).trans (refQ_kernel es x).symm
/-- So are its answers. -/
theorem Inv.answer {es : List Nat} {pairs : List (Nat × Nat)} {quiet : List Nat} (h : Inv es pairs quiet) {lights l p : Nat} (hr : Reached pairs lights l p) :
    (l = 0 ↔ red (refP es) (lights * 2 ^ es.length) / 2 ^ es.length = 0) ∧ (l = 0 → red quiet p = red (refQ es) (red (refP es) (lights * 2 ^ es.length))) := by
  refine ⟨(h.solved hr).trans (refP_solved es).symm, ?_⟩
  rintro rfl
  obtain ⟨h1, h2⟩ := h.presses hr
  obtain ⟨h3, h4⟩ := refP_presses es ((refP_solved es).2 ((h.solved hr).1 rfl))
  rw [← h.quiet_eq]
  exact red_kernel h.isB h.kernel h1 h3 (h2.trans h4.symm)

end Go.Proofs.Ytgnjndkbccakgaa.Ker
