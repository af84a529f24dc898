/- What a law's own walk knows of memory: some blocks with their cells, some things each in its own stretch of blocks. -/
import Derived.Test.YteabfdcobkgmmaaWMore
import Derived.Deep.RegionWith
namespace Go.Proofs.Yteabfdcobkgmmaa.Mw
open Go.RowKit Go.Proofs.YteabfdcobkgmmaaW.PrintWords Go.Proofs.YteabfdcobkgmmaaW.PrintLast Go.Proofs.YteabfdcobkgmmaaW.PrintMore

abbrev ki : Kd Int := Kd.int .i64
/-- From block a on, ahead of block b. -/
def Iv (a b k : Nat) : Prop := a ≤ k ∧ k < b
/-- A thing that lies in the blocks from a on, ahead of b. -/
structure It where
  a : Nat
  b : Nat
  P : World → Prop
structure Bk where
  g : Nat
  cs : Array Value
  t : Nat
def It.ok (r : It) (n0 : Nat) (W : World) : Prop := n0 ≤ r.a ∧ r.a ≤ r.b ∧ r.b ≤ W.heap.size ∧ ∀ W' : World, (∀ k, r.a ≤ k → k < r.b → W'.heap[k]? = W.heap[k]?) → r.P W'
def Bk.ok (c : Bk) (n0 : Nat) (W : World) : Prop := n0 ≤ c.g ∧ c.g < W.heap.size ∧ W.heap[c.g]? = some (.cells c.cs c.t (0, 0))
/-- Since w, the world W: its blocks cs, its things rs; each lies apart from all others. -/
structure M (w : World) (cs : List Bk) (rs : List It) (W : World) : Prop where
  below : Below w.heap.size w W
  bk : ∀ c ∈ cs, c.ok w.heap.size W
  it : ∀ r ∈ rs, r.ok w.heap.size W
  cc : cs.Pairwise fun c d => c.g ≠ d.g
  rr : rs.Pairwise fun q r => q.b ≤ r.a ∨ r.b ≤ q.a
  cr : ∀ c ∈ cs, ∀ r ∈ rs, c.g < r.a ∨ r.b ≤ c.g
section
variable {w W W' : World} {cs : List Bk} {rs : List It}
theorem M.start (w : World) : M w [] [] w := ⟨Below.refl _ _, fun _ h => (by cases h), fun _ h => (by cases h), List.Pairwise.nil, List.Pairwise.nil, fun _ h => (by cases h)⟩
theorem It.ok_move {r : It} {n0 : Nat} (h : r.ok n0 W) (hs : W.heap.size ≤ W'.heap.size) (hm : ∀ k, r.a ≤ k → k < r.b → W'.heap[k]? = W.heap[k]?) : r.ok n0 W' :=
  ⟨h.1, h.2.1, Nat.le_trans h.2.2.1 hs, fun W2 h2 => h.2.2.2 W2 fun k h3 h4 => (h2 k h3 h4).trans (hm k h3 h4)⟩
theorem It.ok_now {r : It} {n0 : Nat} (h : r.ok n0 W) : r.P W := h.2.2.2 W fun _ _ _ => rfl
theorem M.step (h : M w cs rs W) (hb : Below W.heap.size W W') : M w cs rs W' where
  below := below_step h.below hb
  bk c hc := by
    obtain ⟨h1, h2, h3⟩ := h.bk c hc
    exact ⟨h1, Nat.lt_of_lt_of_le h2 hb.size, blk_below h3 hb⟩
  it r hr := It.ok_move (h.it r hr) hb.size fun k _ hk => hb.block k (Nat.lt_of_lt_of_le hk (h.it r hr).2.2.1)
  cc := h.cc
  rr := h.rr
  cr := h.cr
theorem M.drewN (h : M w cs rs W) (n : Nat) : M w cs rs (W.drewN n) := h.step (pw_below_drewN (Below.refl _ _) n)
theorem M.drew (h : M w cs rs W) : M w cs rs W.drew := h.step (below_drew (Below.refl _ _))
/-- What a call has made. -/
theorem M.made {P : World → Prop} (h : M w cs rs W) (hb : Below W.heap.size W W') (hp : ∀ W2 : World, (∀ k, W.heap.size ≤ k → k < W'.heap.size → W2.heap[k]? = W'.heap[k]?) → P W2) : M w cs (⟨W.heap.size, W'.heap.size, P⟩ :: rs) W' where
  below := (h.step hb).below
  bk := (h.step hb).bk
  it r hm := by
    rcases List.mem_cons.1 hm with rfl | hm
    · exact ⟨h.below.size, hb.size, Nat.le_refl _, hp⟩
    · exact (h.step hb).it r hm
  cc := h.cc
  rr := List.pairwise_cons.2 ⟨fun r hr => Or.inr (h.it r hr).2.2.1, h.rr⟩
  cr c hc r hm := by
    rcases List.mem_cons.1 hm with rfl | hm
    · exact Or.inl (h.bk c hc).2.1
    · exact h.cr c hc r hm
/-- A block that is new. -/
theorem M.box {g t : Nat} {xs : Array Value} (h : M w cs rs W) (hg : g = W.heap.size) (hbk : W'.heap[g]? = some (.cells xs t (0, 0))) (hb : Below W.heap.size W W') : M w (⟨g, xs, t⟩ :: cs) rs W' where
  below := (h.step hb).below
  bk c hc := by
    rcases List.mem_cons.1 hc with rfl | hc
    · exact ⟨by rw [hg]; exact h.below.size, blk_lt hbk, hbk⟩
    · exact (h.step hb).bk c hc
  it := (h.step hb).it
  cc := List.pairwise_cons.2 ⟨fun d hd e => by have h2 := (h.bk d hd).2.1; rw [← e] at h2; dsimp only at h2; omega, h.cc⟩
  rr := h.rr
  cr c hc r hm := by
    rcases List.mem_cons.1 hc with rfl | hc
    · exact Or.inr (by rw [hg]; exact (h.it r hm).2.2.1)
    · exact h.cr c hc r hm
theorem M.alloc (h : M w cs rs W) (xs : Array Value) (t : Nat) : M w (⟨W.heap.size, xs, t⟩ :: cs) rs (W.alloc (.cells xs t)) := h.box rfl (blk_new _ _) (below_alloc (Below.refl _ _) _)
/-- The first block, written. -/
theorem M.set {g t : Nat} {xs : Array Value} (h : M w (⟨g, xs, t⟩ :: cs) rs W) (i : Nat) (u : Value) : M w (⟨g, xs.setIfInBounds i u, t⟩ :: cs) rs (W.setCell ⟨g, i, none⟩ u) where
  below := below_set h.below (h.bk _ (List.mem_cons_self ..)).1
  bk d hd := by
    rcases List.mem_cons.1 hd with rfl | hd
    · obtain ⟨h1, h2, h3⟩ := h.bk _ (List.mem_cons_self ..)
      exact ⟨h1, by simpa [World.setCell] using h2, blk_set h3 i u⟩
    · obtain ⟨h1, h2, h3⟩ := h.bk d (List.mem_cons_of_mem _ hd)
      exact ⟨h1, by simpa [World.setCell] using h2, blk_far h3 (p := ⟨g, i, none⟩) (fun e => (List.pairwise_cons.1 h.cc).1 d hd e.symm) u⟩
  it r hm := It.ok_move (h.it r hm) (by simp [World.setCell]) fun k h1 h2 => Below.heap_setCell W ⟨g, i, none⟩ u k (fun e => by
    have hd := h.cr _ (List.mem_cons_self ..) r hm
    subst e
    dsimp only at hd h1 h2
    omega)
  cc := List.pairwise_cons.2 ⟨(List.pairwise_cons.1 h.cc).1, (List.pairwise_cons.1 h.cc).2⟩
  rr := h.rr
  cr c hc r hm := by
    rcases List.mem_cons.1 hc with rfl | hc
    · exact h.cr _ (List.mem_cons_self ..) r hm
    · exact h.cr c (List.mem_cons_of_mem _ hc) r hm
/-- A struct of two cells, written whole. -/
theorem M.set2 {g t : Nat} {x y : Value} (h : M w (⟨g, #[x, y], t⟩ :: cs) rs W) (u v : Value) : M w (⟨g, #[u, v], t⟩ :: cs) rs ((W.setCell ⟨g, 0, none⟩ u).setCell ⟨g, 1, none⟩ v) := (h.set 0 u).set 1 v
/-- A variable of one cell, written. -/
theorem M.set1 {g t : Nat} {x : Value} (h : M w (⟨g, #[x], t⟩ :: cs) rs W) (u : Value) : M w (⟨g, #[u], t⟩ :: cs) rs (W.setCell ⟨g, 0, none⟩ u) := h.set 0 u
/-- Fewer things, in another order. -/
theorem M.sub {cs' : List Bk} {rs' : List It} (h : M w cs rs W) (hc : cs'.Perm cs ∨ cs'.Sublist cs) (hp : rs'.Perm rs ∨ rs'.Sublist rs) : M w cs' rs' W := by
  have hs : ∀ r ∈ rs', r ∈ rs := fun r hr => by
    rcases hp with hp | hp
    · exact hp.mem_iff.1 hr
    · exact hp.subset hr
  have ht : ∀ r ∈ cs', r ∈ cs := fun r hr => by
    rcases hc with hp | hp
    · exact hp.mem_iff.1 hr
    · exact hp.subset hr
  refine ⟨h.below, fun c hc => h.bk c (ht c hc), fun r hm => h.it r (hs r hm), ?_, ?_, fun c hc r hm => h.cr c (ht c hc) r (hs r hm)⟩
  · rcases hc with hc | hc
    · exact hc.symm.pairwise h.cc (fun {_ _} h => h.symm)
    · exact h.cc.sublist hc
  · rcases hp with hp | hp
    · exact hp.symm.pairwise h.rr (fun {_ _} h => h.symm)
    · exact h.rr.sublist hp
theorem M.to1 {q r : It} (h : M w cs (q :: r :: rs) W) : M w cs (r :: q :: rs) W := h.sub (.inl (List.Perm.refl _)) (.inl (List.Perm.swap ..))
theorem M.to2 {p q r : It} (h : M w cs (p :: q :: r :: rs) W) : M w cs (r :: p :: q :: rs) W := h.sub (.inl (List.Perm.refl _)) (.inl ((List.Perm.swap ..).trans (List.Perm.cons _ (List.Perm.swap ..))))
theorem M.to3 {o p q r : It} (h : M w cs (o :: p :: q :: r :: rs) W) : M w cs (r :: o :: p :: q :: rs) W := h.sub (.inl (List.Perm.refl _)) (.inl ((List.Perm.swap ..).trans (List.Perm.cons _ ((List.Perm.swap ..).trans (List.Perm.cons _ (List.Perm.swap ..))))))
theorem M.to4 {n o p q r : It} (h : M w cs (n :: o :: p :: q :: r :: rs) W) : M w cs (r :: n :: o :: p :: q :: rs) W := h.sub (.inl (List.Perm.refl _)) (.inl ((List.Perm.swap ..).trans (List.Perm.cons _ ((List.Perm.swap ..).trans (List.Perm.cons _ ((List.Perm.swap ..).trans (List.Perm.cons _ (List.Perm.swap ..))))))))
theorem M.bto1 {q r : Bk} (h : M w (q :: r :: cs) rs W) : M w (r :: q :: cs) rs W := h.sub (.inl (List.Perm.swap ..)) (.inl (List.Perm.refl _))
theorem M.drop {q : It} (h : M w cs (q :: rs) W) : M w cs rs W := h.sub (.inl (List.Perm.refl _)) (.inr (List.sublist_cons_self ..))
/-- The first thing is written by a call; all else is kept. -/
theorem M.mark {a b : Nat} {P P' : World → Prop} (h : M w cs (⟨a, b, P⟩ :: rs) W) (hb : Below w.heap.size w W') (hk : Kept W W' (Iv a b))
    (hp : ∀ W2 : World, (∀ k, a ≤ k → k < b → W2.heap[k]? = W'.heap[k]?) → P' W2) : M w cs (⟨a, b, P'⟩ :: rs) W' where
  below := hb
  bk d hd := by
    obtain ⟨h1, h2, h3⟩ := h.bk d hd
    have hx := h.cr d hd _ (List.mem_cons_self ..)
    exact ⟨h1, Nat.lt_of_lt_of_le h2 hk.1, (hk.2 d.g h2 (fun hi => by unfold Iv at hi; dsimp only at hx; omega)).trans h3⟩
  it q hq := by
    rcases List.mem_cons.1 hq with rfl | hq
    · obtain ⟨h1, h2, h3, h4⟩ := h.it _ (List.mem_cons_self ..)
      exact ⟨h1, h2, Nat.le_trans h3 hk.1, hp⟩
    · have h1 := h.it q (List.mem_cons_of_mem _ hq)
      have hx := (List.pairwise_cons.1 h.rr).1 q hq
      refine It.ok_move h1 hk.1 fun k h2 h3 => hk.2 k (Nat.lt_of_lt_of_le h3 h1.2.2.1) (fun hi => by unfold Iv at hi; dsimp only at hx; omega)
  cc := h.cc
  rr := List.pairwise_cons.2 ⟨(List.pairwise_cons.1 h.rr).1, (List.pairwise_cons.1 h.rr).2⟩
  cr c hc r hm := by
    rcases List.mem_cons.1 hm with rfl | hm
    · exact h.cr c hc ⟨a, b, P⟩ (List.mem_cons_self ..)
    · exact h.cr c hc r (List.mem_cons_of_mem _ hm)
theorem M.cell (h : M w cs rs W) {g t : Nat} {xs : Array Value} (hm : (⟨g, xs, t⟩ : Bk) ∈ cs) (i : Nat) : W.cell? ⟨g, i, none⟩ = xs[i]? := blk_cell (h.bk _ hm).2.2 i
theorem M.frozen (h : M w cs rs W) {g t : Nat} {xs : Array Value} (hm : (⟨g, xs, t⟩ : Bk) ∈ cs) (i : Nat) : W.frozen? ⟨g, i, none⟩ = false := blk_frozen (h.bk _ hm).2.2 i
/-- What is told of a row that is made. -/
structure Rn where
  A : Option Addr
  c : Nat
  a : Nat
  b : Nat
/-- A row of whole numbers. -/
def row (n0 a b : Nat) (v : Value) (l : List Int) : It := ⟨a, b, fun W => ki.R 3 W n0 (Iv a b) v l⟩
theorem M.rowc {v : Value} {l : List Int} (h : M w cs rs W) (hr : ki.R 3 W' W.heap.size (fun _ => True) v l) (hb : Below W.heap.size W W') : M w cs (row w.heap.size W.heap.size W'.heap.size v l :: rs) W' :=
  h.made hb fun _ h2 => Kd.R_lower (Kd.R_mono (Kd.R_move (Kd.R_bound hr) fun k hk => h2 k hk.2.1 hk.2.2.1) fun _ hk => ⟨hk.2.1, hk.2.2.1⟩) h.below.size
theorem M.reads (h : M w cs rs W) {a b n c : Nat} {A : Option Addr} {l : List Int} (hm : row w.heap.size a b (.slice A n c) l ∈ rs) : n = l.length ∧ n ≤ c ∧ ki.C W A l.length l := Kd.R_reads' (show ki.R 3 W w.heap.size (Iv a b) (.slice A n c) l from It.ok_now (h.it _ hm))
theorem M.rmark {a b : Nat} {v : Value} {l l' : List Int} {P : Nat → Prop} (h : M w cs (row w.heap.size a b v l :: rs) W) (hR : ki.R 3 W' w.heap.size P v l') (hb : Below w.heap.size w W') (hk : Kept W W' (Iv a b)) : M w cs (row w.heap.size a b v l' :: rs) W' := by
  have h4 : ki.R 3 W w.heap.size (Iv a b) v l := It.ok_now (h.it _ (List.mem_cons_self ..))
  refine h.mark hb hk fun W2 h2 => ?_
  exact Kd.R_move (Kd.R_reok rfl hR h4.1) (fun k hk => h2 k hk.1 hk.2)
/-- An argument is as it was. -/
theorem M.arg (h : M w cs rs W) {A : Option Addr} {n : Nat} {l : List Int} (hC : ki.C w A n l) : ki.C W A n l := Kd.C_below hC h.below
end
end Go.Proofs.Yteabfdcobkgmmaa.Mw
