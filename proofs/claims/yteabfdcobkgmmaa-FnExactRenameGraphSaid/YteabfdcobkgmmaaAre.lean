/- What impl.areNames computes: slices.Sorted at what slices.Values hands back: the iterator over a slice gives all of it, in order. -/
import Derived.Shelf.SlIterI.Collect
import Derived.RangeFuncBound
import Derived.Test.YteabfdcobkgmmaaShelf
import Derived.Test.YteabfdcobkgmmaaWMore
import Derived.Test.YteabfdcobkgmmaaWWords
import Derived.LoopNIn
import Derived.LoopIn
namespace Go.Proofs.Yteabfdcobkgmmaa.Are
open Go.RowKit Go.Proofs.YteabfdcobkgmmaaW.PrintWords Go.Proofs.YteabfdcobkgmmaaW.PrintLast Go.Proofs.YteabfdcobkgmmaaW.PrintMore Go.Maps Go.Sort Go.Shelf
attribute [local go_sem] Oper.semAt_some
def ren : Go.Shelf.Ren := ⟨fun | 11 => 55 | n => n, fun | 0 => 0 | 24 => 22 | 26 => 3 | 28 => 61 | 33 => 48 | n => n, fun | n => n⟩
theorem lays : Go.Proofs.SlLaysZI.n11 Try.prog ren := {
  mixed := by kernel_rfl
  f11 := ⟨ "slices.AppendSeq[[]int,int]", by kernel_rfl, Try.func55.trans (congrArg some (by kernel_rfl))⟩
  t0 := Try.underlying0
  a0 := Try.isAgg0
  z0 := Try.sizeOf0
  v0 := Try.zeroValue0
  t24 := Try.underlying22
  a24 := Try.isAgg22
  z24 := Try.sizeOf22
  v24 := Try.zeroValue22
  t26 := Try.underlying3
  a26 := Try.isAgg3
  z26 := Try.sizeOf3
  v26 := Try.zeroValue3
  t28 := Try.underlying61
  a28 := Try.isAgg61
  z28 := Try.sizeOf61
  v28 := Try.zeroValue61
  i26 := by kernel_rfl }
theorem cell_lt {w : World} {a : Addr} {v : Value} (h : w.cell? a = some v) : a.block < w.heap.size := by
  unfold World.cell? at h
  split at h
  · next hb => exact (Array.getElem?_eq_some_iff.1 hb).1
  · cases h
def upto (zs : List Int) (k : Nat) : List Int := (List.range k).map fun j => zs[j]?.getD 0
theorem upto_succ (zs : List Int) (k : Nat) : upto zs (k + 1) = upto zs k ++ [zs[k]?.getD 0] := by simp [upto, List.range_succ]
theorem upto_length (zs : List Int) (k : Nat) : (upto zs k).length = k := by simp [upto]
theorem upto_all (zs : List Int) : upto zs zs.length = zs := by
  apply List.ext_getElem
  · simp [upto]
  · intro i h1 h2
    simp [upto, h2]
set_option maxRecDepth 100000 in
set_option maxHeartbeats 2000000 in
theorem val1 (F : Fence) (n : Nat) (hf : F.fn 54) (hro : F.round = none) (hn : 1 ≤ n) (l Bs b off cap : Nat) (zs : List Int) (hreach : zs.length * 8 ≤ 140737488351232) (J : List Int → World → Prop)
    (hc : ∀ pre W', J pre W' → ∀ j, j < zs.length → W'.cell? ⟨b, off + j, none⟩ = some (.int .i64 (zs[j]?.getD 0)))
    (hY : ∀ pre x W, J pre W → pre.length < zs.length → YieldAt F (n - 1) Try.prog l #[encZ x] W fun e W' => e = .returned (.bool true) ∧ J (pre ++ [x]) W')
    (W : World) (hBs : W.cell? ⟨Bs, 0, none⟩ = some (.slice (some ⟨b, off, none⟩) zs.length cap)) (h0 : J [] W) :
    CallsIn F n Try.prog 54 #[.func (.yield l) #[] #[], .pointer (some ⟨Bs, 0, none⟩)] W fun e W' => (∃ v, e = .returned v) ∧ J zs W' := by
  refine callsIn_of_wp Try.func54 rfl hf ?_ hro
  simp only [Try.ntmps54, List.size_toArray, List.length_cons, List.length_nil, Nat.reduceAdd, Nat.reduceSub, Array.replicate_succ, Array.replicate_zero, List.push_toArray, List.append_toArray, List.nil_append, List.cons_append]
  gi_wp2
  gi_loopw [7] (fun i wr => ∃ k : Nat, k ≤ zs.length ∧ i = .int .i64 k ∧ J (upto zs k) wr) (fun i _ => zs.length - (intOf i).toNat)
  case atStart => exact ⟨0, Nat.zero_le _, rfl, h0⟩
  case round =>
    obtain ⟨k, hk, rfl, hJs⟩ := hrel
    by_cases hlt : k < zs.length
    · have hcx := hc _ _ hJs k hlt
      obtain ⟨x, hx⟩ : ∃ x, zs[k]?.getD 0 = x := ⟨_, rfl⟩
      rw [hx] at hcx
      have HX := Aside0.mk hx
      clear hx
      obtain ⟨fn, tmps, assign, body, hy, hR⟩ := hY _ x wr hJs (by rw [upto_length]; exact hlt)
      unfold encZ at hy
      gi_wp2
      refine hR.mono ?_
      rintro e W3 ⟨rfl, hJ3⟩
      gi_wp2
      go_roundw
      case rel => exact ⟨k + 1, by omega, by simp, by rw [upto_succ, HX.out]; exact hJ3⟩
      case measure => simp [intOf]; omega
    · obtain rfl : k = zs.length := by omega
      gi_wp2
      go_end0
      exact ⟨⟨_, rfl⟩, by rw [upto_all] at hJs; exact hJs⟩
set_option maxHeartbeats 1000000 in
/-- slices.Values: the slice in a box. -/
theorem val (F : Fence) (n : Nat) (hf : F.fn 51) (hro : F.round = none) (a : Option Addr) (len cap : Nat) (w : World) :
    CallsIn F n Try.prog 51 #[.slice a len cap] w fun e w' => e = .returned (.func (.func 54) #[] #[.pointer (some ⟨w.heap.size, 0, none⟩)]) ∧ w' = w.alloc (.cells #[.slice a len cap] 22) := by
  refine callsIn_of_wp Try.func51 rfl hf ?_ hro
  simp only [Try.ntmps51, List.size_toArray, List.length_cons, List.length_nil, Nat.reduceAdd, Nat.reduceSub, Array.replicate_succ, Array.replicate_zero, List.push_toArray, List.append_toArray, List.nil_append, List.cons_append]
  gi_wp2
  go_ret
  exact ⟨rfl, rfl⟩
set_option maxRecDepth 100000 in
set_option maxHeartbeats 2000000 in
/-- slices.AppendSeq(nil, ..) at such an iterator. -/
theorem app (n : Nat) (hn : 3 ≤ n) (Bs b off cap : Nat) (zs : List Int) (hreach : zs.length * 8 ≤ 140737488351232) (w : World) (hBs : Bs < w.heap.size) (hb : b < w.heap.size)
    (hB : w.cell? ⟨Bs, 0, none⟩ = some (.slice (some ⟨b, off, none⟩) zs.length cap)) (hc : ∀ j, j < zs.length → w.cell? ⟨b, off + j, none⟩ = some (.int .i64 (zs[j]?.getD 0))) :
    CallsIn Fence.wide n Try.prog 55 #[.slice none 0 0, .func (.func 54) #[] #[.pointer (some ⟨Bs, 0, none⟩)]] w fun e w' => ∃ v, e = .returned v ∧ w'.ownsRow w.heap.size 3 1 v zs.length (zs.map encZ) ∧ Below w.heap.size w w' := by
  have h1 : 1 ≤ n := by omega
  have hne : 22 ≠ 3 := by decide
  refine callsIn_of_wp_marks Try.func55 rfl trivial ?_ rfl
  simp only [Try.ntmps55, List.size_toArray, List.length_cons, List.length_nil, Nat.reduceAdd, Nat.reduceSub, Array.replicate_succ, Array.replicate_zero, List.push_toArray, List.append_toArray, List.nil_append, List.cons_append]
  gi_wp2
  refine wpIn_rangeFunc ?_
  intro fn hfn
  obtain ⟨W0, hW0⟩ : ∃ W0, w.alloc (.cells #[.slice none 0 0] 22) = W0 := ⟨_, rfl⟩
  have hs0 : W0.heap.size = w.heap.size + 1 := by rw [← hW0]; simp
  have hv0 : W0.heap[w.heap.size]? = some (.cells #[.slice none 0 0] 22 (0, 0)) := by rw [← hW0]; exact World.alloc_heap_new w _
  have hb0 : Below w.heap.size w W0 := by rw [← hW0]; exact (Below.refl _ w).alloc (Nat.le_refl _) _
  rw [hW0]
  obtain ⟨sv, hsv⟩ : ∃ sv : Value, .func (.func 54) #[] #[.pointer (some ⟨Bs, 0, none⟩)] = sv := ⟨_, rfl⟩
  obtain ⟨W1, hW1⟩ : ∃ W1, (W0.alloc (.deferred (some []))).alloc (.loop (AnyZI.apRec ren fn (.func (.func 54) #[] #[.pointer (some ⟨Bs, 0, none⟩)]) w.heap.size W0.heap.size .ready none)) = W1 := ⟨_, rfl⟩
  have hold : ∀ k, k < W0.heap.size → W1.heap[k]? = W0.heap[k]? := fun k hk => by
    rw [← hW1]; exact (Below.heap_alloc _ _ k (by simp; omega)).trans (Below.heap_alloc _ _ k hk)
  have hb1 : Below w.heap.size w W1 := by rw [← hW1]; exact (hb0.alloc hb0.size _).alloc (by have := hb0.size; simp; omega) _
  have hM : AnyZI.ApAt ren w fn (.func (.func 54) #[] #[.pointer (some ⟨Bs, 0, none⟩)]) w.heap.size (W0.heap.size + 1) W0.heap.size [] W1 :=
    ⟨⟨_, (hold w.heap.size (by omega)).trans hv0, ⟨rfl, .inl ⟨rfl, rfl⟩⟩, by simp⟩,
     by rw [← hW1]; have := World.alloc_heap_new (W0.alloc (.deferred (some []))) (.loop (AnyZI.apRec ren fn (.func (.func 54) #[] #[.pointer (some ⟨Bs, 0, none⟩)]) w.heap.size W0.heap.size .ready none)); rwa [World.size_alloc] at this,
     by rw [← hW1]; exact (Below.heap_alloc _ _ _ (by simp)).trans (World.alloc_heap_new W0 _), hb1⟩
  refine ⟨W0.heap.size + 1, [{ target := .collected W0.heap.size, args := #[] }], W1, { target := .fn (.func 54) #[.pointer (some ⟨Bs, 0, none⟩)], args := #[.func (.yield (W0.heap.size + 1)) #[] #[]] }, W1, 54,
    #[.func (.yield (W0.heap.size + 1)) #[] #[]] ++ #[.pointer (some ⟨Bs, 0, none⟩)], W1, ?_, ?_, ?_, ?_, fun _ => h1, ?_⟩
  · rw [← hW1]; exact run_enterLoop_outer _ _ _ _ _
  · simp [resolve, go_sem]
  · intro f' hf'; trivial
  · simp [invoke, go_sem]
  · refine (val1 Fence.wide (n - 1) trivial rfl (by omega) (W0.heap.size + 1) Bs b off cap zs hreach (AnyZI.ApAt ren w fn (.func (.func 54) #[] #[.pointer (some ⟨Bs, 0, none⟩)]) w.heap.size (W0.heap.size + 1) W0.heap.size)
      (fun pre W' hJ j hj => (hJ.below.cell (p := ⟨b, off + j, none⟩) hb).trans (hc j hj))
      (fun pre x W hJ hl => YieldAt.mono (AnyZI.apYield lays Fence.wide (n - 1 - 1) w fn hfn _ w.heap.size (W0.heap.size + 1) W0.heap.size (by omega) (by omega) (by omega) (Nat.le_refl _) (by omega) zs.length (by unfold maxLen; omega) (by omega) pre x W hJ hl) fun e W' h => ⟨h.1, h.2.1⟩) W1
      ((hb1.cell (p := ⟨Bs, 0, none⟩) hBs).trans hB) hM).mono ?_
    rintro e W2 ⟨⟨v0, rfl⟩, h2⟩
    obtain ⟨v, hv, hrow, hnil⟩ := h2.box
    have hend := run_endLoop (P := Try.prog) h2.L (by simp [AnyZI.apRec])
    obtain ⟨W3, hW3⟩ : ∃ W3, W2.putObj (W0.heap.size + 1) (.loop { AnyZI.apRec ren fn (.func (.func 54) #[] #[.pointer (some ⟨Bs, 0, none⟩)]) w.heap.size W0.heap.size .ready none with state := .exhausted }) = W3 := ⟨_, rfl⟩
    rw [hW3] at hend
    have hg3 : W2.grownBy W3 (some (W0.heap.size + 1)) := by rw [← hW3]; exact grownBy_putObj_a _ _ _
    have hv3 : W3.heap[w.heap.size]? = some (.cells #[v] 22 (0, 0)) := by rw [← hW3]; exact (World.putObj_heap_other (by omega)).trans hv
    have hK3 : W3.heap[W0.heap.size]? = some (.deferred (some [])) := by rw [← hW3]; exact (World.putObj_heap_other (by omega)).trans h2.K
    have hrow3 := hrow.kept hg3 (ownsRow_ne_a hrow h2.L (fun cur e => by first | cases e | exact hne (Obj.cells.inj e).2.1))
    have hb3 : Below w.heap.size w W3 := h2.below.grown hg3 h2.below.size (fun k e => by cases e; omega)
    obtain ⟨hc3, hf3⟩ := cell_of_box_a hv3
    clear hW3
    refine ⟨none, W3, hend, ?_⟩
    gi_wp2
    rw [← hs0]
    refine ⟨by simp, .inl ⟨_, _, rfl, run_takeDeferred hK3, ?_⟩⟩
    exact ⟨_, results_tmp rfl _ _ _, v, rfl, hrow3.kept (grownBy_putObj_a _ _ _) (ownsRow_ne_a hrow3 hK3 (fun cur e => by first | cases e | exact hne (Obj.cells.inj e).2.1)), hb3.grown (grownBy_putObj_a _ _ _) hb3.size (fun k e => by cases e; omega)⟩
set_option maxHeartbeats 1000000 in
/-- slices.Collect at such an iterator. -/
theorem col (n : Nat) (hn : 4 ≤ n) (Bs b off cap : Nat) (zs : List Int) (hreach : zs.length * 8 ≤ 140737488351232) (w : World) (hBs : Bs < w.heap.size) (hb : b < w.heap.size)
    (hB : w.cell? ⟨Bs, 0, none⟩ = some (.slice (some ⟨b, off, none⟩) zs.length cap)) (hc : ∀ j, j < zs.length → w.cell? ⟨b, off + j, none⟩ = some (.int .i64 (zs[j]?.getD 0))) :
    CallsIn Fence.wide n Try.prog 52 #[.func (.func 54) #[] #[.pointer (some ⟨Bs, 0, none⟩)]] w fun e w' => ∃ v, e = .returned v ∧ w'.ownsRow w.heap.size 3 1 v zs.length (zs.map encZ) ∧ Below w.heap.size w w' := by
  have h1 : 1 ≤ n := by omega
  have hfA : Fence.wide.fn 55 := trivial
  refine callsIn_of_wp Try.func52 rfl trivial ?_ rfl
  simp only [Try.ntmps52, List.size_toArray, List.length_cons, List.length_nil, Nat.reduceAdd, Nat.reduceSub, Array.replicate_succ, Array.replicate_zero, List.push_toArray, List.append_toArray, List.nil_append, List.cons_append]
  gi_wp2_with (gi_at_call 55; refine (app (n - 1) (by omega) Bs b off cap zs hreach w hBs hb hB hc).mono ?_; rintro e w' ⟨v, rfl, hrow, hb'⟩)
  go_ret
  exact ⟨v, rfl, hrow, hb'⟩
set_option maxHeartbeats 1000000 in
/-- slices.Sorted at such an iterator: a new slice, in order. -/
theorem sorted (n : Nat) (hn : 5 ≤ n) (Bs b off cap : Nat) (zs : List Int) (hz : 0 < zs.length) (hreach : zs.length * 8 ≤ 140737488351232) (w : World) (hBs : Bs < w.heap.size) (hb : b < w.heap.size)
    (hB : w.cell? ⟨Bs, 0, none⟩ = some (.slice (some ⟨b, off, none⟩) zs.length cap)) (hc : ∀ j, j < zs.length → w.cell? ⟨b, off + j, none⟩ = some (.int .i64 (zs[j]?.getD 0))) :
    CallsIn Fence.wide n Try.prog 50 #[.func (.func 54) #[] #[.pointer (some ⟨Bs, 0, none⟩)]] w fun e w' => ∃ g c, e = .returned (.slice (some ⟨g, 0, none⟩) zs.length c) ∧
      (∀ j, j < zs.length → w'.cell? ⟨g, j, none⟩ = some (.int .i64 ((zs.mergeSort fun x y => decide (x ≤ y))[j]?.getD 0))) ∧ Below w.heap.size w w' := by
  have h1 : 1 ≤ n := by omega
  have hfA : Fence.wide.fn 52 := trivial
  have hfS : Fence.wide.fn 53 := trivial
  refine callsIn_of_wp Try.func50 rfl trivial ?_ rfl
  simp only [Try.ntmps50, List.size_toArray, List.length_cons, List.length_nil, Nat.reduceAdd, Nat.reduceSub, Array.replicate_succ, Array.replicate_zero, List.push_toArray, List.append_toArray, List.nil_append, List.cons_append]
  gi_wp2_with (gi_at_call 52; refine (col (n - 1) (by omega) Bs b off cap zs hreach w hBs hb hB hc).mono ?_; rintro e W ⟨v, rfl, hrow, hb'⟩)
  rcases hrow.2 with ⟨rfl, h0⟩ | ⟨g, c, cur, rfl, hbase, hgb, r1, r2, r3, r4⟩
  · exact absurd h0 (by omega)
  · have hH : Holds encZ W g 0 zs.toArray := holds_of_block_i hgb (by simpa using r4)
    have hsz : zs.length < 4611686018427387904 := by omega
    have cS := Try.slices_Sort_int g 0 c zs W hH (Array.getElem?_eq_some_iff.1 hgb).1 hsz
    gi_wp2_with (gi_at_call 53; refine (callsIn_wide.2 cS).mono ?_; rintro e w' ⟨rfl, nn, os, rfl⟩)
    go_ret
    have ho := ownsRow_sorted_i (n := nn) (os := os) (ss := zs) (ts := zs.mergeSort fun x y => decide (x ≤ y)) (by simp) hbase hgb r1 r2 r3
    refine ⟨g, c, rfl, fun j hj => ?_, hb'.grown (grownBy_sorted_i _) hb'.size (fun j hj => by cases hj; exact hbase)⟩
    rcases ho.2 with ⟨h, _⟩ | ⟨g', c', cur', h, _, hgb', _, _, _, r4'⟩
    · cases h
    · cases h
      have hH' := holds_of_block_i hgb' (ss := zs.mergeSort fun x y => decide (x ≤ y)) (by simpa using r4')
      have hj' := (hH' j (by simpa using hj)).1
      rw [Nat.zero_add] at hj'
      rw [hj']
      congr 2
      rw [getElem!_pos _ j (by simpa using hj)]
      simp [hj]
/-- The names 0 .. n - 1. -/
def iota (n : Nat) : List Int := (List.range n).map Int.ofNat
def areF (l0 : List Int) (a1 : Int) : Option Bool :=
  if (l0.length : Int) = a1 then (if 0 < l0.length ∧ l0.length ≤ 1048576 then some (decide ((l0.mergeSort fun x y => decide (x ≤ y)) = iota l0.length)) else none) else some false
theorem not_iota {l : List Int} {k n : Nat} (hk : k < n) (h : l[k]?.getD 0 ≠ (k : Int)) : decide (l = iota n) = false := by
  apply decide_eq_false
  rintro rfl
  exact h (by simp [iota, hk])
theorem is_iota {l : List Int} {n : Nat} (hl : l.length = n) (h : ∀ j, j < n → l[j]?.getD 0 = (j : Int)) : decide (l = iota n) = true := by
  apply decide_eq_true
  apply List.ext_getElem
  · simp [iota, hl]
  · intro i h1 h2
    have := h i (by omega)
    rw [List.getElem?_eq_getElem h1, Option.getD_some] at this
    simp [iota, this]
set_option maxRecDepth 100000 in
set_option maxHeartbeats 2000000 in
theorem are (A0 : Option Addr) (c0 : Nat) (l0 : List Int) (a1 : Int) (r : Bool) (w : World) (hr0 : Kd.C (Kd.int .i64) w A0 l0.length l0) (_ : l0.length ≤ c0) (h : areF l0 a1 = some r) :
    Calls Try.prog 43 #[.slice A0 l0.length c0, .int .i64 a1] w fun e w' => e = .returned (.bool r) ∧ Below w.heap.size w w' := by
  refine (callsIn_wide (n := 8)).1 ?_
  have hfV : Fence.wide.fn 51 := trivial
  have hfS : Fence.wide.fn 50 := trivial
  refine callsIn_of_wp Try.func43 rfl trivial ?_ rfl
  simp only [Try.ntmps43, List.size_toArray, List.length_cons, List.length_nil, Nat.reduceAdd, Nat.reduceSub, Array.replicate_succ, Array.replicate_zero, List.push_toArray, List.append_toArray, List.nil_append, List.cons_append]
  unfold areF at h
  by_cases hn : (l0.length : Int) = a1
  · rw [if_pos hn] at h
    subst hn
    by_cases hb : 0 < l0.length ∧ l0.length ≤ 1048576
    · rw [if_pos hb] at h
      obtain rfl := Option.some.inj h
      clear h
      have hr : ReadsOf (Value.int .i64) (0 : Int) w A0 l0.length l0 := Kd.reads_of_C hr0
      obtain ⟨ad, rfl, hc⟩ := hr.2.2 (by omega)
      obtain ⟨b, off, sp⟩ := ad
      have hs : sp = none := World.cell?_spot (hc 0 (by omega))
      subst hs
      have hc' : ∀ j, j < l0.length → w.cell? ⟨b, off + j, none⟩ = some (.int .i64 (l0[j]?.getD 0)) := fun j hj => by
        have := hc j hj
        rw [Addr.add_lit] at this
        simpa using this
      have hbl : b < w.heap.size := cell_lt (hc 0 (by omega))
      clear hc hr hr0
      have hb0 : Below w.heap.size w (w.alloc (.cells #[.slice (some ⟨b, off, none⟩) l0.length c0] 22)) := (Below.refl _ w).alloc (Nat.le_refl _) _

      have cS := sorted 7 (by omega) w.heap.size b off c0 l0 hb.1 (by omega) _ (by simp) (by simp; omega) (by simp) (fun j hj => (hb0.cell (p := ⟨b, off + j, none⟩) hbl).trans (hc' j hj))
      have hne : ((l0.length : Int) != (l0.length : Int)) = false := by simp
      have hlen : (l0.mergeSort fun x y => decide (x ≤ y)).length = l0.length := List.length_mergeSort ..
      generalize hss : (l0.mergeSort fun x y => decide (x ≤ y)) = ss at cS hlen ⊢
      clear hss
      gi_wp2_with (first
        | (gi_at_call 51; refine (val Fence.wide 7 trivial rfl _ _ _ _).mono ?_; rintro e w' ⟨rfl, rfl⟩)
        | (gi_at_call 50; refine cS.mono ?_; rintro e w' ⟨g, c, rfl, hcell, hb'⟩))
      have hB : Below w.heap.size w w' := hb0.trans (hb'.mono (by simp))
      clear hb' cS hb0 hc'
      have HL := Aside0.mk hcell
      clear hcell
      gi_loopw [15] (fun i wr => ∃ k : Nat, k ≤ l0.length ∧ i = .int .i64 k ∧ (∀ j, j < k → ss[j]?.getD 0 = (j : Int)) ∧ wr = w') (fun i _ => l0.length - (intOf i).toNat)
      case atStart => exact ⟨0, Nat.zero_le _, rfl, fun j hj => absurd hj (Nat.not_lt_zero _), rfl⟩
      case round =>
        obtain ⟨k, hk, rfl, hS, rfl⟩ := hrel
        by_cases hlt : k < l0.length
        · obtain ⟨x, hx⟩ : ∃ x, ss[k]?.getD 0 = x := ⟨_, rfl⟩
          have hcx := HL.out k hlt
          rw [hx] at hcx
          have HX := Aside0.mk hx
          clear hx
          by_cases hxk : (k : Int) = x
          · have hd : ((k : Int) != x) = false := by simp [hxk]
            have HK := Aside0.mk hxk
            clear hxk
            gi_wp2
            go_roundw
            case rel => exact ⟨k + 1, by omega, by simp, fun j hj => by
              rcases Nat.lt_succ_iff_lt_or_eq.1 hj with hj | rfl
              · exact hS j hj
              · rw [HX.out, HK.out], trivial⟩
            case measure => simp [intOf]; omega
          · have hd : ((k : Int) != x) = true := by simp [hxk]
            gi_wp2
            go_ret
            exact ⟨by rw [not_iota hlt (by rw [HX.out]; exact fun h => hxk h.symm)]; rfl, hB⟩
        · obtain rfl : k = l0.length := by omega
          gi_wp2
          go_ret
          exact ⟨by rw [is_iota hlen hS]; rfl, hB⟩
    · rw [if_neg hb] at h
      cases h
  · rw [if_neg hn] at h
    obtain rfl := Option.some.inj h
    have hne : decide ((l0.length : Int) ≠ a1) = true := decide_eq_true hn
    gi_wp2
    go_ret
    exact ⟨rfl, Below.refl _ _⟩
end Go.Proofs.Yteabfdcobkgmmaa.Are
