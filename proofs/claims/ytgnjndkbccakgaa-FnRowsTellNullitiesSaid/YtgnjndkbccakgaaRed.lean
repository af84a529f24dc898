/- What impl.reduced computes: the program's walk, once: its range over slices.Backward, its closure. -/
import Derived.Test.YtgnjndkbccakgaaPBasex
import Derived.Test.YtgnjndkbccakgaaLin
import Derived.Test.YtgnjndkbccakgaaGra2
import Derived.RangeFuncBox
import Derived.RangeFuncLeaves
import Derived.Shelf.Abstract
import Derived.OwnWalkIn
import Derived.TacticsInMore
import Derived.LoopNIn
import Derived.LoopIn
import Derived.RegionIn
import Derived.Shelf.RegionOpen
import Derived.RangeFuncCalls
namespace Go.Proofs.Ytgnjndkbccakgaa.Red
open Go.RowKit Go.Proofs.Ytgnjndkbccakgaa.PBase Go.Proofs.YtgnjndkbccakgaaW.PrintWords Go.Proofs.YtgnjndkbccakgaaW.PrintLast Go.Proofs.YtgnjndkbccakgaaW.PrintMore
open Go.Proofs.Ytgnjndkbccakgaa.Lin Go.Proofs.Ytgnjndkbccakgaa.Bit Go.Proofs.Ytgnjndkbccakgaa.Gra
attribute [local go_sem] Oper.semAt_some
/-- A number, drawn into 1 .. 2^62 - 1. -/
def clN (n : Nat) : Nat := if 1 ≤ n ∧ n < 2 ^ 62 then n else 1
def clv (n : Nat) : Int := ((clN n : Nat) : Int)
theorem clN_pos (n : Nat) : 1 ≤ clN n := by unfold clN; split <;> omega
theorem clN_lt (n : Nat) : clN n < 2 ^ 62 := by unfold clN; split <;> omega
theorem clN_of {n : Nat} (h : 1 ≤ n) (h2 : n < 2 ^ 62) : clN n = n := if_pos ⟨h, h2⟩
/-- What the rounds leave of a set. -/
def rdx_N (s : Nat) (pre : List (Nat × Nat)) : Nat := pre.foldl (fun s x => if s.testBit (clN x.2).log2 then s ^^^ clN x.2 else s) s
theorem rdx_N_snoc (s : Nat) (pre : List (Nat × Nat)) (x : Nat × Nat) : rdx_N s (pre ++ [x]) = if (rdx_N s pre).testBit (clN x.2).log2 then rdx_N s pre ^^^ clN x.2 else rdx_N s pre := by
  unfold rdx_N
  rw [List.foldl_append]
  rfl
theorem rdx_N_lt {s : Nat} (hs : s < 2 ^ 62) (pre : List (Nat × Nat)) : rdx_N s pre < 2 ^ 62 := by
  unfold rdx_N
  induction pre generalizing s with
  | nil => exact hs
  | cons x pre ih =>
    rw [List.foldl_cons]
    apply ih
    split
    · exact Nat.xor_lt_two_pow hs (clN_lt _)
    · exact hs
def rdx_down (zs : List Nat) (k : Nat) : List (Nat × Nat) := (List.range k).map fun j => (zs.length - 1 - j, zs[zs.length - 1 - j]?.getD 0)
theorem rdx_down_succ (zs : List Nat) (k : Nat) : rdx_down zs (k + 1) = rdx_down zs k ++ [(zs.length - 1 - k, zs[zs.length - 1 - k]?.getD 0)] := by simp [rdx_down, List.range_succ]
theorem rdx_down_length (zs : List Nat) (k : Nat) : (rdx_down zs k).length = k := by simp [rdx_down]
/-- What a round keeps: what lay below n₀, and the box of the slice. -/
def rdx_K (n₀ Bs : Nat) (A B : World) : Prop := Below n₀ A B ∧ ∀ v, A.cell? ⟨Bs, 0, none⟩ = some v → B.cell? ⟨Bs, 0, none⟩ = some v
theorem rdx_K_refl (n₀ Bs : Nat) (A : World) : rdx_K n₀ Bs A A := ⟨Below.refl _ _, fun _ h => h⟩
theorem rdx_K_b {n₀ Bs : Nat} {w : World} (hn : n₀ ≤ w.heap.size) (hB : Bs < w.heap.size) (W : World) (l : Nat) (o o' : Obj) (hl : w.heap.size ≤ l) (h : W.heap[l]? = some o) (a : o.isCells = false) (b : o.isWalk = false) : rdx_K n₀ Bs W (W.putObj l o') :=
  ⟨belowK_b hn W l o o' hl h a b, fun _ e => ((belowK_b (Nat.le_refl _) W l o o' hl h a b).cell (p := ⟨Bs, 0, none⟩) hB).trans e⟩
theorem rdx_K_trans {n₀ Bs : Nat} {A B C : World} (h : rdx_K n₀ Bs A B) (k : rdx_K n₀ Bs B C) : rdx_K n₀ Bs A C := ⟨h.1.trans k.1, fun v e => k.2 v (h.2 v e)⟩
set_option maxRecDepth 100000 in
set_option maxHeartbeats 2000000 in
theorem rdx_back1_in (F : Fence) (n : Nat) (h8 : F.fn 107) (hro : F.round = none) (hn : 1 ≤ n) (l Bs n₀ b off cap : Nat) (zs : List Nat) (hreach : zs.length * 8 ≤ 140737488351232) (hb : b < n₀) (J Jx : List (Nat × Nat) → World → Prop)
    (hY : ∀ pre x W, J pre W → pre.length < zs.length → YieldAt F (n - 1) Try.prog l #[.int .i64 (x.1 : Int), .int .i64 (clv x.2)] W fun e W' =>
      (e = .returned (.bool true) ∧ J (pre ++ [x]) W' ∧ rdx_K n₀ Bs W W') ∨ (e = .returned (.bool false) ∧ Jx (pre ++ [x]) W'))
    (W : World) (hBs : W.cell? ⟨Bs, 0, none⟩ = some (.slice (some ⟨b, off, none⟩) zs.length cap)) (hc : ∀ j, j < zs.length → W.cell? ⟨b, off + j, none⟩ = some (.int .i64 (clv (zs[j]?.getD 0)))) (h0 : J [] W) :
    CallsIn F n Try.prog 107 #[.func (.yield l) #[] #[], .pointer (some ⟨Bs, 0, none⟩)] W fun e W' => (∃ v, e = .returned v) ∧
      ((∃ ys, ys = rdx_down zs zs.length ∧ J ys W') ∨ (∃ pre, (∃ k, k ≤ zs.length ∧ pre = rdx_down zs k) ∧ Jx pre W')) := by
  refine callsIn_of_wp Try.func107 rfl h8 ?_ hro
  simp only [Try.ntmps107, List.size_toArray, List.length_cons, List.length_nil, Nat.reduceAdd, Nat.reduceSub, Array.replicate_succ, Array.replicate_zero, List.push_toArray, List.append_toArray, List.nil_append, List.cons_append]
  gi_wp2
  gi_loopw [3] (fun i wr => ∃ k : Nat, k ≤ zs.length ∧ i = .int .i64 ((zs.length : Int) - 1 - (k : Int)) ∧ J (rdx_down zs k) wr ∧ rdx_K n₀ Bs W wr)
    (fun i _ => (intOf i + 1).toNat)
  case atStart => exact ⟨0, Nat.zero_le _, by simp, h0, rdx_K_refl _ _ _⟩
  case round =>
    obtain ⟨k, hk, hi, hJs, hnx⟩ := hrel
    by_cases hlt : k < zs.length
    · obtain ⟨j, hj, hjk⟩ : ∃ j : Nat, (zs.length : Int) - 1 - (k : Int) = (j : Int) ∧ zs.length - 1 - k = j := ⟨zs.length - 1 - k, by omega, rfl⟩
      rw [hj] at hi
      subst hi
      have hjl : j < zs.length := by omega
      have hcx' : wr.cell? ⟨b, off + j, none⟩ = some (.int .i64 (clv (zs[j]?.getD 0))) := (hnx.1.cell (p := ⟨b, off + j, none⟩) hb).trans (hc j hjl)
      obtain ⟨x, hx⟩ : ∃ x, zs[j]?.getD 0 = x := ⟨_, rfl⟩
      rw [hx] at hcx'
      have HX := Aside0.mk hx
      clear hx
      obtain ⟨fn, tmps, assign, body, hy, hR⟩ := hY _ (j, x) wr hJs (by rw [rdx_down_length]; exact hlt)
      dsimp only at hy
      have hBs' := hnx.2 _ hBs
      gi_wp2
      refine hR.mono ?_
      rintro e W3 (⟨rfl, hJ3, hk3⟩ | ⟨rfl, hJx3⟩)
      · gi_wp2
        go_roundw
        case rel => exact ⟨k + 1, by omega, by congr 1; omega, by rw [rdx_down_succ, hjk, HX.out]; exact hJ3, rdx_K_trans hnx hk3⟩
        case measure => first | (simp [intOf]; done) | (simp [intOf]; omega)
      · gi_wp2
        refine bodyPost_ret (results_none rfl _ _ _) rfl ?_
        exact ⟨⟨_, rfl⟩, .inr ⟨_, ⟨k + 1, by omega, by rw [rdx_down_succ, hjk, HX.out]⟩, hJx3⟩⟩
    · obtain rfl : k = zs.length := by omega
      rw [show (zs.length : Int) - 1 - (zs.length : Int) = -1 by omega] at hi
      subst hi
      gi_wp2
      go_end0
      exact ⟨⟨_, rfl⟩, .inl ⟨_, rfl, hJs⟩⟩
set_option maxRecDepth 100000 in
set_option maxHeartbeats 1000000 in
theorem rdx_back1_nil_in (F : Fence) (n : Nat) (h8 : F.fn 107) (hro : F.round = none) (l Bs cap : Nat) (a : Option Addr) (J : List (Nat × Nat) → World → Prop) (W : World) (hBs : W.cell? ⟨Bs, 0, none⟩ = some (.slice a 0 cap)) (h0 : J [] W) :
    CallsIn F n Try.prog 107 #[.func (.yield l) #[] #[], .pointer (some ⟨Bs, 0, none⟩)] W fun e W' => (∃ v, e = .returned v) ∧ J [] W' := by
  refine callsIn_of_wp Try.func107 rfl h8 ?_ hro
  simp only [Try.ntmps107, List.size_toArray, List.length_cons, List.length_nil, Nat.reduceAdd, Nat.reduceSub, Array.replicate_succ, Array.replicate_zero, List.push_toArray, List.append_toArray, List.nil_append, List.cons_append]
  gi_wp2
  gi_loopw [3] (fun i wr => i = .int .i64 (-1) ∧ J [] wr) (fun _ _ => 0)
  case atStart => exact ⟨rfl, h0⟩
  case round =>
    obtain ⟨rfl, hJs⟩ := hrel
    gi_wp2
    go_end0
    exact ⟨⟨_, rfl⟩, hJs⟩
set_option maxHeartbeats 1000000 in
theorem rdx_back_in (F : Fence) (n : Nat) (h6 : F.fn 104) (hro : F.round = none) (a : Option Addr) (len cap : Nat) (w : World) :
    CallsIn F n Try.prog 104 #[.slice a len cap] w fun e w' => e = .returned (.func (.func 107) #[] #[.pointer (some ⟨w.heap.size, 0, none⟩)]) ∧ w' = w.alloc (.cells #[.slice a len cap] 26) := by
  refine callsIn_of_wp Try.func104 rfl h6 ?_ hro
  simp only [Try.ntmps104, List.size_toArray, List.length_cons, List.length_nil, Nat.reduceAdd, Nat.reduceSub, Array.replicate_succ, Array.replicate_zero, List.push_toArray, List.append_toArray, List.nil_append, List.cons_append]
  gi_wp2
  go_ret
  exact ⟨rfl, rfl⟩
/-- The slice value holds the ints zs, in a block below n₀; or there are none. -/
def rdx_Ints (n₀ : Nat) (W : World) (sv : Value) (zs : List Nat) : Prop :=
  (∃ a cap, sv = .slice a 0 cap ∧ zs = []) ∨ ∃ b off cap, sv = .slice (some ⟨b, off, none⟩) zs.length cap ∧ b < n₀ ∧ ∀ j, j < zs.length → W.cell? ⟨b, off + j, none⟩ = some (.int .i64 (clv (zs[j]?.getD 0)))
theorem rdx_Ints.below {n₀ : Nat} {A B : World} (h : Below n₀ A B) {sv : Value} {zs : List Nat} : rdx_Ints n₀ A sv zs → rdx_Ints n₀ B sv zs
  | .inl e => .inl e
  | .inr ⟨b, off, cap, e, hb, hc⟩ => .inr ⟨b, off, cap, e, hb, fun j hj => (h.cell (p := ⟨b, off + j, none⟩) hb).trans (hc j hj)⟩
theorem rdx_stops (F : Fence) (n : Nat) (h8 : F.fn 107) (hro : F.round = none) (hn : 1 ≤ n) (Bs n₀ : Nat) (sv : Value) (zs : List Nat) (hreach : zs.length * 8 ≤ 140737488351232) (w : World) (hBs : Bs < w.heap.size) (hn₀ : n₀ ≤ w.heap.size)
    (hc : w.cell? ⟨Bs, 0, none⟩ = some sv) (hI : rdx_Ints n₀ w sv zs) :
    SeqStopsK F n Try.prog 107 #[.pointer (some ⟨Bs, 0, none⟩)] (fun x : Nat × Nat => #[Value.int .i64 (x.1 : Int), Value.int .i64 (clv x.2)]) (rdx_K n₀ Bs) (fun ys => ys = rdx_down zs zs.length)
      (fun pre => ∃ k, k ≤ zs.length ∧ pre = rdx_down zs k) zs.length w := fun l J Jx W hW _ _ hY h0 => by
  have hc' := (hW.cell (p := ⟨Bs, 0, none⟩) hBs).trans hc
  rcases hI.below (hW.mono hn₀) with ⟨a, cap, rfl, rfl⟩ | ⟨b, off, cap, rfl, hb, hcs⟩
  · exact (rdx_back1_nil_in F n h8 hro l Bs cap a J W hc' h0).mono fun e W' ⟨he, hj⟩ => ⟨he, .inl ⟨_, rfl, hj⟩⟩
  · exact rdx_back1_in F n h8 hro hn l Bs n₀ b off cap zs hreach hb J Jx hY W hc' hcs h0
set_option maxRecDepth 100000 in
set_option maxHeartbeats 2000000 in
theorem rdx_red_in (HT : ∀ (b : Nat) (w : World), 1 ≤ b → b < 2 ^ 62 → Calls Try.prog 99 #[.int .i64 (b : Int)] w fun e w' => e = .returned (.int .i64 ((b.log2 : Nat) : Int)) ∧ Drawn0 w w')
    (HH : ∀ (s t : Nat) (w : World), s < 2 ^ 62 → Calls Try.prog 90 #[.int .i64 (s : Int), .int .i64 (t : Int)] w fun e w' => e = .returned (.bool (s.testBit t)) ∧ Drawn0 w w')
    (n : Nat) (hn : 3 ≤ n) (a : Option Addr) (cap : Nat) (zs : List Nat) (s : Nat) (hs : s < 2 ^ 62) (hreach : zs.length * 8 ≤ 140737488351232) (w : World) (hI : rdx_Ints w.heap.size w (.slice a zs.length cap) zs) :
    CallsIn Fence.wide n Try.prog 94 #[.slice a zs.length cap, .int .i64 (s : Int)] w fun e W' => e = .returned (.int .i64 ((rdx_N s (rdx_down zs zs.length) : Nat) : Int)) ∧ Below w.heap.size w W' := by
  have h1 : 1 ≤ n := by omega
  have hfA : Fence.wide.fn 104 := trivial
  refine callsIn_of_wp_marks Try.func94 rfl trivial ?_ rfl
  simp only [Try.ntmps94, List.size_toArray, List.length_cons, List.length_nil, Nat.reduceAdd, Nat.reduceSub, Array.replicate_succ, Array.replicate_zero, List.push_toArray, List.append_toArray, List.nil_append, List.cons_append]
  gi_wp2_with (gi_at_call 104; refine (rdx_back_in Fence.wide (n - 1) trivial rfl _ _ _ _).mono ?_; rintro e w' ⟨rfl, rfl⟩)
  have bS := Boxed.new w 3 (.int .i64 (s : Int))
  have bN := Boxed.new (w.alloc (.cells #[.int .i64 (s : Int)] 3)) 26 (.slice a zs.length cap)
  rw [World.size_alloc] at bN
  have hB0 : Below w.heap.size w ((w.alloc (.cells #[.int .i64 (s : Int)] 3)).alloc (.cells #[.slice a zs.length cap] 26)) := ((Below.refl _ w).alloc (Nat.le_refl _) _).alloc (by simp) _
  refine wpIn_rangeFunc_ownG rfl h1 (gf := 107) (lb := #[.pointer (some ⟨w.heap.size + 1, 0, none⟩)]) rfl trivial (enters_of Try.func107 (by kernel_rfl) rfl)
    (rdx_stops Fence.wide (n - 1) trivial rfl (by omega) (w.heap.size + 1) w.heap.size _ zs hreach _ (by simp) (by simp; omega) bN.cell (hI.below hB0)) rdx_K_trans (rdx_K_b (by simp; omega) (by simp)) (Below.refl _ _) (fun _ => rfl)
    (fun pre W => (W.cell? ⟨w.heap.size, 0, none⟩ = some (.int .i64 ((rdx_N s pre : Nat) : Int)) ∧ W.frozen? ⟨w.heap.size, 0, none⟩ = false) ∧ Below w.heap.size w W)
    (fun _ _ _ => False)
    (OwnFrom.and (Own.from (fun s A B row hs hg hr => ⟨cell_kept hs.1 hg hr, (frozen_kept hs.1 hg hr).trans hs.2⟩) _) (ownFrom_below (Nat.le_refl _) (by simp; omega)))
    (fun _ _ _ _ _ hs _ _ => hs)
    ⟨⟨(bS.alloc _).cell, (bS.alloc _).frozen⟩, hB0⟩
    (fun x => { tmps := #[.slice a zs.length cap, .int .i64 (s : Int), undef, .pointer (some ⟨w.heap.size, 0, none⟩), .int .i64 0, undef, .int .i64 (clv x.2), .slice a zs.length cap, .func (.func 107) #[] #[.pointer (some ⟨w.heap.size + 1, 0, none⟩)], .int .i64 (x.1 : Int), .int .i64 (clv x.2), undef, undef, undef, undef, undef, undef, undef, undef], defers := [] }) ?assign ?body ?done ?stop
  case assign =>
    intro l x W K hK
    gi_wp2
    exact hK
  case body =>
    rintro l pre x W ⟨⟨hc, hf⟩, hB⟩ _
    have hfT : Fence.wide.fn 99 := trivial
    have hfH : Fence.wide.fn 90 := trivial
    have hd : 1 ≤ n - 1 - 1 := by omega
    have hmx : Try.prog.follows .mixedOrders = true := by kernel_rfl
    have HT1 := fun W => HT (clN x.2) W (clN_pos _) (clN_lt _)
    have HH1 := fun W => HH (rdx_N s pre) (clN x.2).log2 W (rdx_N_lt hs pre)
    have HX := Aside0.mk (rdx_N_snoc s pre x)
    have hxl := xorn (rdx_N s pre) (clN x.2) (Nat.lt_trans (rdx_N_lt hs pre) (by decide)) (Nat.lt_trans (clN_lt _) (by decide))
    unfold clv
    generalize rdx_N s pre = sp at *
    generalize clN x.2 = b at *
    clear HT HH
    generalize htt : b.log2 = t at *
    gi_wp2
    gi_region_with_o (first
      | (gi_at_call 99; refine (CallsIn.inRound l (callsIn_wide.2 (HT1 _))).mono ?_; rintro e w' ⟨rfl, ⟨q, rfl⟩⟩)
      | (gi_at_call 90; refine (CallsIn.inRound l (callsIn_wide.2 (HH1 _))).mono ?_; rintro e w' ⟨rfl, ⟨q, rfl⟩⟩))
    all_goals
      clear HT1 HH1
      generalize hqq : 1 + _ + _ = qq
      clear hqq
      by_cases ht : sp.testBit t = true
      · rw [ht]
        have hx2 := HX.out
        rw [if_pos ht] at hx2
        clear HX
        gi_wp2
        have hk : KeepsOthers W (W.drewN qq) := ⟨Nat.le_refl _, fun _ _ h _ => h⟩
        have hB2 := pw_below_drewN hB qq
        have hc2 : (W.drewN qq).cell? ⟨w.heap.size, 0, none⟩ = some (.int .i64 (sp : Int)) := hc
        have hf2 : (W.drewN qq).frozen? ⟨w.heap.size, 0, none⟩ = false := hf
        have hbx : rdx_K w.heap.size (w.heap.size + 1) W (W.drewN qq) := ⟨pw_below_drewN (Below.refl _ _) qq, fun _ h => h⟩
        generalize W.drewN qq = W2 at *
        refine ⟨(hk.trans (KeepsOthers.setCell _ _ _)).from _, rdx_K_trans hbx ⟨(Below.refl w.heap.size W2).setCell (p := ⟨w.heap.size, 0, none⟩) (Nat.le_refl _) _, fun v h => ?_⟩, ⟨?_, ?_⟩, ?_⟩
        · exact (World.cell?_setCell_other _ ⟨w.heap.size, 0, none⟩ ⟨w.heap.size + 1, 0, none⟩ _ (by simp)).trans h
        · rw [hx2]; exact World.cell?_setCell_same' _ _ _ (by rw [hc2]; rfl)
        · rw [World.frozen?_setCell]; exact hf2
        · exact hB2.setCell (p := ⟨w.heap.size, 0, none⟩) (Nat.le_refl _) _
      · rw [Bool.not_eq_true] at ht
        rw [ht]
        have hx2 := HX.out
        rw [if_neg (by rw [ht]; decide)] at hx2
        gi_wp2
        have hk : KeepsOthers W (W.drewN qq) := ⟨Nat.le_refl _, fun _ _ h _ => h⟩
        exact ⟨hk.from _, ⟨pw_below_drewN (Below.refl _ _) qq, fun _ h => h⟩, ⟨by rw [hx2]; exact hc, hf⟩, pw_below_drewN hB qq⟩
  case done =>
    rintro D ys W hD rfl ⟨⟨hc, _⟩, hB⟩ hK
    gi_wp2
    refine ⟨by simp, .inl ⟨_, _, rfl, run_takeDeferred hK, ?_⟩⟩
    exact ⟨_, results_tmp rfl _ _ _, rfl, hB.trans (belowK_b (w := w) (Nat.le_refl _) W D _ _ (by simp at hD; omega) hK rfl rfl)⟩
  case stop =>
    rintro D c pre W _ _ h _
    exact h.elim
/-! ### In plain words -/
theorem top_calls (b : Nat) (w : World) (h1 : 1 ≤ b) (h2 : b < 2 ^ 62) : Calls Try.prog 99 #[.int .i64 (b : Int)] w fun e w' => e = .returned (.int .i64 ((b.log2 : Nat) : Int)) ∧ Drawn0 w w' := by
  refine impl_top.calls (b : Int) _ w ?_
  unfold impl_top.f two62
  rw [if_pos (Int.natCast_nonneg _), if_pos (by omega), Int.toNat_natCast]
  unfold topI
  rw [if_neg (by omega)]
theorem has_calls (x i : Nat) (w : World) (hx : x < 2 ^ 62) : Calls Try.prog 90 #[.int .i64 (x : Int), .int .i64 (i : Int)] w fun e w' => e = .returned (.bool (x.testBit i)) ∧ Drawn0 w w' := by
  refine impl_has.calls _ _ _ w ?_
  have hx' : x < 2 ^ 63 := by omega
  unfold impl_has.f
  rw [if_pos (Int.natCast_nonneg _), shrn x i hx', show (1 : Int) = ((1 : Nat) : Int) from rfl, andn _ _ (Nat.lt_of_le_of_lt (Nat.div_le_self _ _) hx') (by decide), Nat.and_one_is_mod, Nat.testBit_eq_decide_div_mod_eq]
  congr 1
  rcases Nat.mod_two_eq_zero_or_one (x / 2 ^ i) with h | h <;> rw [h] <;> rfl
theorem rdx_red (B : List Nat) (s : Nat) (hB : ∀ b ∈ B, 1 ≤ b ∧ b < 2 ^ 62) : ∀ k, k ≤ B.length → rdx_N s (rdx_down B k) = red (B.drop (B.length - k)) s
  | 0, _ => by rw [Nat.sub_zero, List.drop_length]; rfl
  | k + 1, hk => by
    have hi : B.length - 1 - k < B.length := by omega
    have hm := hB _ (List.getElem_mem hi)
    rw [rdx_down_succ, rdx_N_snoc, rdx_red B s hB k (by omega)]
    rw [show B.length - (k + 1) = B.length - 1 - k by omega, List.drop_eq_getElem_cons hi, red_cons, show B.length - 1 - k + 1 = B.length - k by omega]
    simp only [List.getElem?_eq_getElem hi, Option.getD_some]
    rw [clN_of hm.1 hm.2]
/-- impl.reduced, called: what is left of a set. -/
theorem reduced_calls (A : Option Addr) (cap : Nat) (B : List Nat) (s : Nat) (hs : s < 2 ^ 62) (hB : ∀ b ∈ B, 1 ≤ b ∧ b < 2 ^ 62) (hl : B.length ≤ 1000000000000) (w : World) (hC : Kd.C (Kd.int .i64) w A B.length (zs B)) :
    Calls Try.prog 94 #[.slice A B.length cap, .int .i64 (s : Int)] w fun e w' => e = .returned (.int .i64 ((red B s : Nat) : Int)) ∧ Below w.heap.size w w' := by
  have hI : rdx_Ints w.heap.size w (.slice A B.length cap) B := by
    have hr : ReadsOf (Value.int .i64) (0 : Int) w A B.length (zs B) := Kd.reads_of_C hC
    by_cases h0 : B.length = 0
    · exact .inl ⟨A, cap, by rw [h0], List.length_eq_zero_iff.1 h0⟩
    · obtain ⟨ad, rfl, hc⟩ := hr.2.2 (by omega)
      obtain ⟨b, off, sp⟩ := ad
      have hsp : sp = none := World.cell?_spot (hc 0 (by omega))
      subst hsp
      refine .inr ⟨b, off, cap, rfl, ?_, fun j hj => ?_⟩
      · exact World.block_lt_of_cell? w _ (hc 0 (by omega))
      · have := hc j hj
        rw [Addr.add_lit] at this
        rw [this]
        have hm := hB _ (List.getElem_mem hj)
        simp only [List.getElem?_eq_getElem hj, Option.getD_some, clv, clN_of hm.1 hm.2]
        rw [List.getD_eq_getElem?_getD, List.getElem?_eq_getElem (by rw [zs_length]; exact hj)]
        simp [zs]
  have h := callsIn_wide.1 (rdx_red_in (fun b w h1 h2 => top_calls b w h1 h2) (fun s t w h => has_calls s t w h) 3 (Nat.le_refl _) A cap B s hs (by omega) w hI)
  rw [rdx_red B s hB _ (Nat.le_refl _), Nat.sub_self, List.drop_zero] at h
  exact h
end Go.Proofs.Ytgnjndkbccakgaa.Red
