/- Plain linear algebra over two elements: sets as natural numbers, sums by xor; a basis is a list of sets ordered by their greatest elements, none of which lies in another one. No program here. -/
namespace Go.Proofs.YteabfdcobkgmmaaDoor.Lin

/-- The sets that are sums of some of a list. -/
def Sp : List Nat → Nat → Prop
  | [], x => x = 0
  | b :: B, x => Sp B x ∨ Sp B (x ^^^ b)

theorem xx (a b : Nat) : a ^^^ b ^^^ b = a := by rw [Nat.xor_assoc, Nat.xor_self, Nat.xor_zero]
theorem xxl (a b : Nat) : a ^^^ (a ^^^ b) = b := by rw [← Nat.xor_assoc, Nat.xor_self, Nat.zero_xor]
theorem x3 (a b c : Nat) : a ^^^ b ^^^ c = a ^^^ c ^^^ b := by rw [Nat.xor_assoc, Nat.xor_comm b c, ← Nat.xor_assoc]
theorem x4 (a b c : Nat) : a ^^^ c ^^^ (b ^^^ c) = a ^^^ b := by rw [Nat.xor_comm b c, ← Nat.xor_assoc, xx]
theorem xeq {a b : Nat} (h : a ^^^ b = 0) : a = b := by rw [← xx a b, h, Nat.zero_xor]

theorem Sp.zero : ∀ B, Sp B 0
  | [] => rfl
  | _ :: B => .inl (Sp.zero B)

theorem Sp.add : ∀ {B : List Nat} {x y : Nat}, Sp B x → Sp B y → Sp B (x ^^^ y)
  | [], _, _, hx, hy => by
    have hx' : _ = 0 := hx
    have hy' : _ = 0 := hy
    show _ = 0
    rw [hx', hy']; rfl
  | b :: B, x, y, hx, hy => by
    rcases hx with hx | hx <;> rcases hy with hy | hy
    · exact .inl (Sp.add hx hy)
    · exact .inr (by have := Sp.add hx hy; rwa [← Nat.xor_assoc] at this)
    · exact .inr (by have := Sp.add hx hy; rwa [x3] at this)
    · exact .inl (by have := Sp.add hx hy; rwa [x4] at this)

theorem Sp.mem : ∀ {B : List Nat} {b : Nat}, b ∈ B → Sp B b
  | c :: B, b, h => by
    rcases List.mem_cons.1 h with rfl | h
    · exact .inr (by rw [Nat.xor_self]; exact Sp.zero B)
    · exact .inl (Sp.mem h)

/-- What all of a list lie in, when it is closed, all sums lie in. -/
theorem Sp.least {B : List Nat} {P : Nat → Prop} (h0 : P 0) (ha : ∀ x y, P x → P y → P (x ^^^ y)) (hB : ∀ b ∈ B, P b) : ∀ {x}, Sp B x → P x := by
  induction B with
  | nil => intro x hx; have hx' : x = 0 := hx; rw [hx']; exact h0
  | cons b B ih =>
    intro x hx
    have hB' : ∀ c ∈ B, P c := fun c hc => hB c (List.mem_cons_of_mem _ hc)
    rcases hx with hx | hx
    · exact ih hB' hx
    · have := ha _ _ (ih hB' hx) (hB b (List.mem_cons_self ..))
      rwa [xx] at this

theorem Sp.mono {B C : List Nat} (h : ∀ b ∈ B, Sp C b) {x : Nat} (hx : Sp B x) : Sp C x :=
  Sp.least (P := Sp C) (Sp.zero C) (fun _ _ => Sp.add) h hx

theorem Sp.bit {B : List Nat} {i : Nat} (h : ∀ b ∈ B, b.testBit i = false) {x : Nat} (hx : Sp B x) : x.testBit i = false :=
  Sp.least (P := fun x => x.testBit i = false) (Nat.zero_testBit i) (fun _ _ h1 h2 => by rw [Nat.testBit_xor, h1, h2]; rfl) h hx

theorem Sp.lt {B : List Nat} {n : Nat} (h : ∀ b ∈ B, b < 2 ^ n) {x : Nat} (hx : Sp B x) : x < 2 ^ n :=
  Sp.least (P := fun x => x < 2 ^ n) (Nat.two_pow_pos n) (fun _ _ h1 h2 => Nat.xor_lt_two_pow h1 h2) h hx

/-! ### The greatest element -/

theorem top_bit {b : Nat} (h : b ≠ 0) : b.testBit b.log2 = true := by
  have h1 := Nat.log2_self_le h
  have h2 : b < 2 ^ (b.log2 + 1) := Nat.lt_log2_self
  rw [Nat.testBit_eq_decide_div_mod_eq]
  have h3 : b / 2 ^ b.log2 = 1 := by
    apply Nat.div_eq_of_lt_le
    · omega
    · rw [Nat.pow_succ] at h2; omega
  rw [h3]; rfl

theorem bit_above {b i : Nat} (h : b.log2 < i) : b.testBit i = false := by
  apply Nat.testBit_lt_two_pow
  exact Nat.lt_of_lt_of_le Nat.lt_log2_self (Nat.pow_le_pow_right (by decide) h)

theorem ne_of_bit {b i : Nat} (h : b.testBit i = true) : b ≠ 0 := fun e => by rw [e, Nat.zero_testBit] at h; cases h

theorem le_top {b i : Nat} (h : b.testBit i = true) : i ≤ b.log2 := by
  rcases Nat.lt_or_ge b.log2 i with h1 | h1
  · rw [bit_above h1] at h; cases h
  · exact h1

/-- A set is known by its greatest element: it is in it, and none greater is. -/
theorem top_of {b i : Nat} (h : b.testBit i = true) (h' : ∀ j, i < j → b.testBit j = false) : b.log2 = i := by
  have h1 := le_top h
  rcases Nat.lt_or_ge i b.log2 with h2 | h2
  · have := h' _ h2
    rw [top_bit (ne_of_bit h)] at this; cases this
  · omega

theorem top_xor_lt {a b : Nat} (h : a.log2 < b.log2) : (b ^^^ a).log2 = b.log2 := by
  have hb : b ≠ 0 := fun e => by rw [e] at h; simp at h
  apply top_of
  · rw [Nat.testBit_xor, top_bit hb, bit_above h]; rfl
  · intro j hj
    rw [Nat.testBit_xor, bit_above hj, bit_above (Nat.lt_trans h hj)]; rfl

/-! ### Bases -/

/-- b stands before c: b's greatest element is less, and is not in c. -/
def Bef (b c : Nat) : Prop := b.log2 < c.log2 ∧ c.testBit b.log2 = false
structure IsB (B : List Nat) : Prop where
  ne : ∀ b ∈ B, b ≠ 0
  bef : B.Pairwise Bef

theorem IsB.nil : IsB [] := ⟨(fun _ h => by cases h), List.Pairwise.nil⟩
theorem IsB.tail {b : Nat} {B : List Nat} (h : IsB (b :: B)) : IsB B := ⟨fun c hc => h.ne c (List.mem_cons_of_mem _ hc), (List.pairwise_cons.1 h.bef).2⟩

/-- The greatest element of one of a basis is in no other one. -/
theorem IsB.alone {B : List Nat} (h : IsB B) {b c : Nat} (hb : b ∈ B) (hc : c ∈ B) (hne : b ≠ c) : c.testBit b.log2 = false := by
  induction B with
  | nil => cases hb
  | cons d B ih =>
    have hp := List.pairwise_cons.1 h.bef
    rcases List.mem_cons.1 hb with rfl | hb' <;> rcases List.mem_cons.1 hc with rfl | hc'
    · exact absurd rfl hne
    · exact (hp.1 c hc').2
    · exact bit_above (hp.1 b hb').1
    · exact ih h.tail hb' hc'

/-- A sum of a basis that has none of its greatest elements is 0. -/
theorem IsB.zero {B : List Nat} (h : IsB B) {x : Nat} (hx : Sp B x) (hb : ∀ b ∈ B, x.testBit b.log2 = false) : x = 0 := by
  induction B with
  | nil => exact hx
  | cons c B ih =>
    have hp := List.pairwise_cons.1 h.bef
    rcases hx with hx | hx
    · exact ih h.tail hx fun b hb' => hb b (List.mem_cons_of_mem _ hb')
    · have h1 := Sp.bit (fun b hb' => (hp.1 b hb').2) hx
      rw [Nat.testBit_xor, hb c (List.mem_cons_self ..), top_bit (h.ne c (List.mem_cons_self ..))] at h1
      cases h1

/-- A sum of a list whose greatest elements rise has one of them as its own, unless it is 0. -/
theorem Sp.top {B : List Nat} (hne : ∀ b ∈ B, b ≠ 0) (hs : B.Pairwise fun b c => b.log2 < c.log2) {x : Nat} (hx : Sp B x) (h0 : x ≠ 0) : ∃ b ∈ B, b.log2 = x.log2 := by
  induction B generalizing x with
  | nil => exact absurd hx h0
  | cons c B ih =>
    have hp := List.pairwise_cons.1 hs
    have hne' : ∀ b ∈ B, b ≠ 0 := fun b hb => hne b (List.mem_cons_of_mem _ hb)
    rcases hx with hx | hx
    · obtain ⟨b, hb, e⟩ := ih hne' hp.2 hx h0
      exact ⟨b, List.mem_cons_of_mem _ hb, e⟩
    · by_cases e : x ^^^ c = 0
      · exact ⟨c, List.mem_cons_self .., by rw [xeq e]⟩
      · obtain ⟨b, hb, e1⟩ := ih hne' hp.2 hx e
        refine ⟨b, List.mem_cons_of_mem _ hb, ?_⟩
        have h1 := hp.1 b hb
        rw [e1] at h1
        have := top_xor_lt h1
        rw [xx] at this
        rw [e1, this]

/-! ### What is left of a set -/

def red (B : List Nat) (s : Nat) : Nat := B.foldr (fun b s => if s.testBit b.log2 then s ^^^ b else s) s
theorem red_cons (b : Nat) (B : List Nat) (s : Nat) : red (b :: B) s = if (red B s).testBit b.log2 then red B s ^^^ b else red B s := rfl

theorem red_sp (B : List Nat) (s : Nat) : Sp B (s ^^^ red B s) := by
  induction B with
  | nil => show _ = 0; exact Nat.xor_self s
  | cons b B ih =>
    rw [red_cons]
    split
    · exact .inr (by rw [← Nat.xor_assoc, xx]; exact ih)
    · exact .inl ih

theorem red_bit {B : List Nat} (h : IsB B) (s : Nat) : ∀ b ∈ B, (red B s).testBit b.log2 = false := by
  induction B with
  | nil => intro b hb; cases hb
  | cons c B ih =>
    have hp := List.pairwise_cons.1 h.bef
    have hc0 := top_bit (h.ne c (List.mem_cons_self ..))
    intro b hb
    rw [red_cons]
    rcases List.mem_cons.1 hb with rfl | hb'
    · split
      · rename_i h1
        rw [Nat.testBit_xor, h1, hc0]; rfl
      · rename_i h1
        simpa using h1
    · have h2 := ih h.tail b hb'
      have h3 := bit_above (hp.1 b hb').1
      split
      · rw [Nat.testBit_xor, h2, h3]; rfl
      · exact h2

theorem red_eq {B : List Nat} (h : IsB B) {s t : Nat} (hst : Sp B (s ^^^ t)) : red B s = red B t := by
  apply xeq
  apply h.zero
  · have h1 := Sp.add (red_sp B s) (Sp.add hst (red_sp B t))
    have e : s ^^^ red B s ^^^ (s ^^^ t ^^^ (t ^^^ red B t)) = red B s ^^^ red B t := by
      rw [← Nat.xor_assoc (s ^^^ t), xx, Nat.xor_comm s (red B s), Nat.xor_assoc, xxl]
    rwa [e] at h1
  · intro b hb
    rw [Nat.testBit_xor, red_bit h s b hb, red_bit h t b hb]; rfl

theorem red_self {B : List Nat} {s : Nat} (h : ∀ b ∈ B, s.testBit b.log2 = false) : red B s = s := by
  induction B with
  | nil => rfl
  | cons b B ih =>
    rw [red_cons, ih fun c hc => h c (List.mem_cons_of_mem _ hc), h b (List.mem_cons_self ..)]
    rfl

theorem red_zero {B : List Nat} (h : IsB B) {s : Nat} : red B s = 0 ↔ Sp B s := by
  constructor
  · intro e
    have := red_sp B s
    rwa [e, Nat.xor_zero] at this
  · intro hs
    have := red_eq h (s := s) (t := 0) (by rwa [Nat.xor_zero])
    rw [this]
    exact red_self fun b _ => Nat.zero_testBit _

theorem red_add {B : List Nat} (h : IsB B) (s t : Nat) : red B (s ^^^ t) = red B s ^^^ red B t := by
  have h1 : red B (s ^^^ t) = red B (red B s ^^^ red B t) := red_eq h (by
    have := Sp.add (red_sp B s) (red_sp B t)
    have e : s ^^^ t ^^^ (red B s ^^^ red B t) = s ^^^ red B s ^^^ (t ^^^ red B t) := by
      rw [← Nat.xor_assoc, x3 s t (red B s), Nat.xor_assoc (s ^^^ red B s)]
    rwa [e])
  rw [h1]
  exact red_self fun b hb => by rw [Nat.testBit_xor, red_bit h s b hb, red_bit h t b hb]; rfl

theorem red_lt {B : List Nat} {n s : Nat} (h : ∀ b ∈ B, b < 2 ^ n) (hs : s < 2 ^ n) : red B s < 2 ^ n := by
  have := Nat.xor_lt_two_pow hs (Sp.lt h (red_sp B s))
  rwa [xxl] at this

/-! ### One basis for one space -/

theorem IsB.rise {B : List Nat} (h : IsB B) : B.Pairwise fun b c => b.log2 < c.log2 := h.bef.imp fun h => h.1

theorem IsB.mem_of {B C : List Nat} (hB : IsB B) (hC : IsB C) (h : ∀ x, Sp B x ↔ Sp C x) {b : Nat} (hb : b ∈ B) : b ∈ C := by
  have hb0 := hB.ne b hb
  obtain ⟨c, hc, e⟩ := Sp.top hC.ne hC.rise ((h b).1 (Sp.mem hb)) hb0
  have hs : Sp B (b ^^^ c) := Sp.add (Sp.mem hb) ((h c).2 (Sp.mem hc))
  have hz : b ^^^ c = 0 := by
    apply hB.zero hs
    intro d hd
    obtain ⟨d', hd', e'⟩ := Sp.top hC.ne hC.rise ((h d).1 (Sp.mem hd)) (hB.ne d hd)
    rw [Nat.testBit_xor]
    by_cases hbd : d = b
    · subst hbd
      rw [top_bit hb0, ← e, top_bit (hC.ne c hc)]; rfl
    · have h1 := hB.alone hd hb hbd
      have h2 : d' ≠ c := fun ec => by
        subst ec
        have := hB.alone hb hd (fun e => hbd e.symm)
        rw [← e, e', top_bit (hB.ne d hd)] at this; cases this
      have h3 := hC.alone hd' hc h2
      rw [h1, ← e', h3]; rfl
  rw [xeq hz]; exact hc

theorem rise_eq : ∀ {B C : List Nat}, (B.Pairwise fun b c => b.log2 < c.log2) → (C.Pairwise fun b c => b.log2 < c.log2) → (∀ x, x ∈ B ↔ x ∈ C) → B = C
  | [], [], _, _, _ => rfl
  | [], c :: C, _, _, h => absurd ((h c).2 (List.mem_cons_self ..)) (by simp)
  | b :: B, [], _, _, h => absurd ((h b).1 (List.mem_cons_self ..)) (by simp)
  | b :: B, c :: C, hB, hC, h => by
    have pB := List.pairwise_cons.1 hB
    have pC := List.pairwise_cons.1 hC
    have e : b = c := by
      rcases List.mem_cons.1 ((h b).1 (List.mem_cons_self ..)) with e | h1
      · exact e
      · rcases List.mem_cons.1 ((h c).2 (List.mem_cons_self ..)) with e | h2
        · exact e.symm
        · have := pC.1 b h1
          have := pB.1 c h2
          omega
    subst e
    rw [rise_eq pB.2 pC.2 fun x => ⟨fun hx => ?_, fun hx => ?_⟩]
    · rcases List.mem_cons.1 ((h x).1 (List.mem_cons_of_mem _ hx)) with rfl | h1
      · have := pB.1 x hx; omega
      · exact h1
    · rcases List.mem_cons.1 ((h x).2 (List.mem_cons_of_mem _ hx)) with rfl | h1
      · have := pC.1 x hx; omega
      · exact h1

theorem IsB.unique {B C : List Nat} (hB : IsB B) (hC : IsB C) (h : ∀ x, Sp B x ↔ Sp C x) : B = C :=
  rise_eq hB.rise hC.rise fun _ => ⟨fun hx => hB.mem_of hC h hx, fun hx => hC.mem_of hB (fun x => (h x).symm) hx⟩

/-! ### A basis with a set more -/

/-- A member of a basis behind the coming of t (what is left of a set, not 0). -/
def clr (t b : Nat) : Nat := if b.testBit t.log2 then b ^^^ t else b

theorem clr_top {t b : Nat} (ht : t ≠ 0) (h : t.testBit b.log2 = false) : (clr t b).log2 = b.log2 := by
  unfold clr
  split
  · rename_i h1
    have h2 := le_top h1
    have h3 : t.log2 ≠ b.log2 := fun e => by
      rw [← e, top_bit ht] at h; cases h
    exact top_xor_lt (by omega)
  · rfl

theorem clr_ne {t b : Nat} (hb : b ≠ 0) (h : t.testBit b.log2 = false) : clr t b ≠ 0 := by
  unfold clr
  split
  · intro e
    have := congrArg (fun x => x.testBit b.log2) e
    simp only [Nat.testBit_xor, top_bit hb, h, Nat.zero_testBit] at this
    cases this
  · exact hb

theorem clr_bit {t b : Nat} (ht : t ≠ 0) : (clr t b).testBit t.log2 = false := by
  unfold clr
  split
  · rename_i h
    rw [Nat.testBit_xor, h, top_bit ht]; rfl
  · rename_i h
    simpa using h

theorem clr_bit_other {t b i : Nat} (h1 : b.testBit i = false) (h2 : t.testBit i = false) : (clr t b).testBit i = false := by
  unfold clr
  split
  · rw [Nat.testBit_xor, h1, h2]; rfl
  · exact h1

theorem clr_low {t b : Nat} (h : b.log2 < t.log2) : clr t b = b := by
  unfold clr
  rw [bit_above h]; rfl

def putB (B : List Nat) (s : Nat) : List Nat :=
  let t := red B s
  if t = 0 then B else B.filter (fun b => b.log2 < t.log2) ++ t :: (B.filter (fun b => t.log2 < b.log2)).map (clr t)

/-- What a list must be to be the basis with t more: the members are these, and their greatest elements rise. -/
structure Puts (B : List Nat) (t : Nat) (R : List Nat) : Prop where
  mem : ∀ x, x ∈ R ↔ x = t ∨ ∃ b ∈ B, x = clr t b
  rise : R.Pairwise fun b c => b.log2 < c.log2

theorem Puts.eq {B R R' : List Nat} {t : Nat} (h : Puts B t R) (h' : Puts B t R') : R = R' :=
  rise_eq h.rise h'.rise fun x => (h.mem x).trans (h'.mem x).symm

theorem Puts.isB {B R : List Nat} {t : Nat} (hB : IsB B) (ht : t ≠ 0) (hf : ∀ b ∈ B, t.testBit b.log2 = false) (h : Puts B t R) : IsB R := by
  have key : ∀ x ∈ R, ∀ y ∈ R, x.log2 < y.log2 → y.testBit x.log2 = false := by
    intro x hx y hy hlt
    rcases (h.mem x).1 hx with rfl | ⟨b, hb, rfl⟩ <;> rcases (h.mem y).1 hy with rfl | ⟨c, hc, rfl⟩
    · omega
    · exact clr_bit ht
    · rw [clr_top ht (hf b hb)]; exact hf b hb
    · rw [clr_top ht (hf b hb)]
      rw [clr_top ht (hf b hb), clr_top ht (hf c hc)] at hlt
      exact clr_bit_other (hB.alone hb hc fun e => by rw [e] at hlt; omega) (hf b hb)
  refine ⟨fun x hx => ?_, ?_⟩
  · rcases (h.mem x).1 hx with rfl | ⟨b, hb, rfl⟩
    · exact ht
    · exact clr_ne (hB.ne b hb) (hf b hb)
  · exact (List.pairwise_iff_forall_sublist.2 fun {x y} hxy => by
      have hr := List.pairwise_iff_forall_sublist.1 h.rise hxy
      exact ⟨hr, key x (hxy.subset (by simp)) y (hxy.subset (by simp)) hr⟩)

theorem Puts.sp {B R : List Nat} {t : Nat} (h : Puts B t R) (x : Nat) : Sp R x ↔ Sp (t :: B) x := by
  have mt : t ∈ R := (h.mem t).2 (.inl rfl)
  constructor
  · apply Sp.mono
    intro y hy
    rcases (h.mem y).1 hy with rfl | ⟨b, hb, rfl⟩
    · exact Sp.mem (List.mem_cons_self ..)
    · unfold clr
      split
      · exact Sp.add (Sp.mem (List.mem_cons_of_mem _ hb)) (Sp.mem (List.mem_cons_self ..))
      · exact Sp.mem (List.mem_cons_of_mem _ hb)
  · apply Sp.mono
    intro y hy
    rcases List.mem_cons.1 hy with rfl | hy
    · exact Sp.mem mt
    · have hc : Sp R (clr t y) := Sp.mem ((h.mem _).2 (.inr ⟨y, hy, rfl⟩))
      by_cases hb : y.testBit t.log2
      · have := Sp.add hc (Sp.mem mt)
        unfold clr at this
        rw [if_pos hb, xx] at this
        exact this
      · unfold clr at hc
        rwa [if_neg hb] at hc

theorem putB_puts {B : List Nat} (hB : IsB B) {s : Nat} (ht : red B s ≠ 0) : Puts B (red B s) (putB B s) := by
  have hf := red_bit hB s
  have hne : ∀ b ∈ B, b.log2 ≠ (red B s).log2 := fun b hb e => by
    have := hf b hb
    rw [e, top_bit ht] at this; cases this
  unfold putB
  simp only [if_neg ht]
  refine ⟨fun x => ?_, ?_⟩
  · simp only [List.mem_append, List.mem_filter, List.mem_cons, List.mem_map, decide_eq_true_eq]
    constructor
    · rintro (⟨hx, hl⟩ | rfl | ⟨b, ⟨hb, _⟩, rfl⟩)
      · exact .inr ⟨x, hx, (clr_low hl).symm⟩
      · exact .inl rfl
      · exact .inr ⟨b, hb, rfl⟩
    · rintro (rfl | ⟨b, hb, rfl⟩)
      · exact .inr (.inl rfl)
      · rcases Nat.lt_or_gt_of_ne (hne b hb) with hl | hl
        · exact .inl (by rw [clr_low hl]; exact ⟨hb, hl⟩)
        · exact .inr (.inr ⟨b, ⟨hb, hl⟩, rfl⟩)
  · rw [List.pairwise_append]
    refine ⟨hB.rise.filter _, ?_, ?_⟩
    · rw [List.pairwise_cons]
      refine ⟨?_, ?_⟩
      · intro x hx
        simp only [List.mem_map, List.mem_filter, decide_eq_true_eq] at hx
        obtain ⟨b, ⟨hb, hl⟩, rfl⟩ := hx
        rw [clr_top ht (hf b hb)]; exact hl
      · rw [List.pairwise_map]
        apply (hB.rise.filter _).imp_of_mem
        intro b c hb hc hl
        rw [clr_top ht (hf b (List.mem_filter.1 hb).1), clr_top ht (hf c (List.mem_filter.1 hc).1)]
        exact hl
    · intro x hx y hy
      simp only [List.mem_filter, decide_eq_true_eq] at hx
      rcases List.mem_cons.1 hy with rfl | hy
      · exact hx.2
      · simp only [List.mem_map, List.mem_filter, decide_eq_true_eq] at hy
        obtain ⟨b, ⟨hb, hl⟩, rfl⟩ := hy
        rw [clr_top ht (hf b hb)]
        exact Nat.lt_trans hx.2 hl

theorem putB_isB {B : List Nat} (hB : IsB B) (s : Nat) : IsB (putB B s) := by
  by_cases ht : red B s = 0
  · unfold putB; rw [if_pos ht]; exact hB
  · exact (putB_puts hB ht).isB hB ht (red_bit hB s)

theorem putB_sp {B : List Nat} (hB : IsB B) (s x : Nat) : Sp (putB B s) x ↔ Sp (s :: B) x := by
  have hs : Sp B (s ^^^ red B s) := red_sp B s
  by_cases ht : red B s = 0
  · unfold putB; rw [if_pos ht]
    rw [ht, Nat.xor_zero] at hs
    exact ⟨.inl, fun h => h.elim id fun h => by have := Sp.add h hs; rwa [xx] at this⟩
  · rw [(putB_puts hB ht).sp]
    constructor
    · rintro (h | h)
      · exact .inl h
      · exact .inr (by have := Sp.add h hs; rwa [Nat.xor_comm s, ← Nat.xor_assoc, xx] at this)
    · rintro (h | h)
      · exact .inl h
      · exact .inr (by have := Sp.add h hs; rwa [← Nat.xor_assoc, xx] at this)

/-- A list of these, ordered by their greatest elements in whatever way, is the basis with the set more. -/
theorem sorted_putB {B R : List Nat} (hB : IsB B) {s : Nat} (ht : red B s ≠ 0) (hp : R.Perm (B.map (clr (red B s)) ++ [red B s])) (hs : R.Pairwise fun b c => b.log2 ≤ c.log2) : R = putB B s := by
  have hf := red_bit hB s
  refine Puts.eq (B := B) (t := red B s) ⟨fun x => ?_, ?_⟩ (putB_puts hB ht)
  · rw [hp.mem_iff]
    simp only [List.mem_append, List.mem_map, List.mem_singleton]
    constructor
    · rintro (⟨b, hb, rfl⟩ | rfl)
      · exact .inr ⟨b, hb, rfl⟩
      · exact .inl rfl
    · rintro (rfl | ⟨b, hb, rfl⟩)
      · exact .inr rfl
      · exact .inl ⟨b, hb, rfl⟩
  · have hd : (B.map (clr (red B s)) ++ [red B s]).Pairwise fun b c => b.log2 ≠ c.log2 := by
      rw [List.pairwise_append]
      refine ⟨?_, List.pairwise_singleton .., ?_⟩
      · rw [List.pairwise_map]
        apply hB.rise.imp_of_mem
        intro b c hb hc hl
        rw [clr_top ht (hf b hb), clr_top ht (hf c hc)]
        omega
      · intro x hx y hy
        obtain ⟨b, hb, rfl⟩ := List.mem_map.1 hx
        obtain rfl := List.mem_singleton.1 hy
        rw [clr_top ht (hf b hb)]
        intro e
        have := hf b hb
        rw [e, top_bit ht] at this; cases this
    have hd' := hp.symm.pairwise hd fun {x y} h e => h e.symm
    exact (hs.and hd').imp fun h => by omega

end Go.Proofs.YteabfdcobkgmmaaDoor.Lin
