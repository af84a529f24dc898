/- Several texts in one. -/
import Derived.Test.YtgnjndkbccakgaaProg
import Derived.Below
import Derived.Deep.Draws
import Derived.Deep.AppendLies
import Derived.Maps.AppendAt
import Derived.OwnWalk
import Derived.Laws.BytesArg
import Derived.Laws.MakeOwn
import Derived.Laws.OwnMore
import Derived.Deep.OwnRows
import Derived.Tactics
import Derived.Lib.ConvBytes
import Derived.Laws.Slices
import Derived.WalkKit
import Derived.KernelRfl
import Derived.RowKit3
import Derived.Deep.LoopGhost
import Derived.Deep.QuietTactic
import Derived.BigQuiet
import Derived.WideLaws
import Derived.Deep.DeepCutAuto
import Derived.Deep.CutBlock
import Derived.Deep.RegionHeld3
import Derived.Laws.Rows
import Derived.Lib.AppendStr
import Derived.ArgAppend
import Derived.Laws.IdiomCopy
import Derived.OrdersHeld
import Derived.Laws.BitsLemmas
import Derived.RowKit
import Derived.Shelf.Abstract
import Derived.Test.YtgnjndkbccakgaaGra
import Derived.Test.YtgnjndkbccakgaaRow
import Derived.Test.YtgnjndkbccakgaaWWords
import Derived.Test.YtgnjndkbccakgaaWLast
import Derived.Test.YtgnjndkbccakgaaWTab
import Derived.Test.YtgnjndkbccakgaaWFour
import Derived.Test.YtgnjndkbccakgaaWQPut
import Derived.Test.YtgnjndkbccakgaaWApart
import Derived.Test.YtgnjndkbccakgaaWArr
import Derived.Test.YtgnjndkbccakgaaWZeros
import Derived.Test.YtgnjndkbccakgaaWFoot
import Derived.Test.YtgnjndkbccakgaaWKept
import Derived.Test.YtgnjndkbccakgaaWShare
import Derived.Test.YtgnjndkbccakgaaWN
import Derived.Test.YtgnjndkbccakgaaWFootNe
import Derived.Test.YtgnjndkbccakgaaWAt
import Derived.Test.YtgnjndkbccakgaaWEqStruct
import Derived.Test.YtgnjndkbccakgaaWRepsOne
import Derived.Test.YtgnjndkbccakgaaWInv
import Derived.Test.YtgnjndkbccakgaaWInvWords
import Derived.Test.YtgnjndkbccakgaaWGuard
import Derived.Test.YtgnjndkbccakgaaWNEv
import Derived.Test.YtgnjndkbccakgaaWMore
-- WRITTEN BY xprint.py, a program of this session, which runs the kit's print over functions with given contracts
namespace Go.Proofs.Ytgnjndkbccakgaa.PBas3
open Go.RowKit Go.Proofs.YtgnjndkbccakgaaW.PrintWords Go.Proofs.YtgnjndkbccakgaaW.PrintLast Go.Proofs.YtgnjndkbccakgaaW.PrintMore
attribute [local go_sem] max2_int min2_int max_two min_two max_three min_three max_four min_four   -- for this text's walks alone
set_option linter.unusedVariables false
set_option linter.unusedSimpArgs false



def errW : Option Int → Value
  | none => .nilIface
  | some c => .iface 0 (.int .i64 c)
theorem errW_none : errW none = .nilIface := rfl
theorem errW_some (c : Int) : errW (some c) = .iface 0 (.int .i64 c) := rfl

-- the values' own types

end Go.Proofs.Ytgnjndkbccakgaa.PBas3

-- WRITTEN BY xprint.py, a program of this session, which runs the kit's print over functions with given contracts
namespace Go.Proofs.Ytgnjndkbccakgaa.PBas3
open Go.RowKit Go.Proofs.YtgnjndkbccakgaaW.PrintWords Go.Proofs.YtgnjndkbccakgaaW.PrintLast Go.Proofs.YtgnjndkbccakgaaW.PrintMore
attribute [local go_sem] max2_int min2_int max_two min_two max_three min_three max_four min_four   -- for this text's walks alone
set_option linter.unusedVariables false
set_option linter.unusedSimpArgs false

/-! ### impl_whole: function 82 -/
def impl_whole.f (a0 : Int) : Option (Int) := if 0 ≤ a0 then (some (wrap64 ((shl .i64 1 a0) - 1))) else (none)
set_option maxHeartbeats 8000000 in
set_option maxRecDepth 100000 in
theorem impl_whole.calls (a0 : Int) (r : Int) (w : World) (h : impl_whole.f a0 = some r) :
    Calls Try.prog 82 #[.int .i64 a0] w fun e w' => e = .returned (.int .i64 r) ∧ Drawn0 w w' := by
  have H : (if 0 ≤ a0 then (some (wrap64 ((shl .i64 1 a0) - 1))) else (none)) = some r := h
  clear h
  by_cases c2 : 0 ≤ a0
  · rw [if_pos c2] at H
    have c2b0 := eq_true c2
    have c2b1 : decide (0 ≤ a0) = true := decide_eq_true c2
    clear c2
    obtain ⟨ji3, hji3⟩ : ∃ j_ : Int, (shl .i64 1 a0) = j_ := ⟨_, rfl⟩
    replace H : (some (wrap64 ((ji3) - 1))) = some r := by first | (rw [hji3] at H; exact H) | (simp only [hji3] at H ⊢; exact H)
    have hji3_ : (IntKind.i64.wrap (1 * 2 ^ min a0.toNat 64)) = ji3 := hji3
    have hji3z : a0 ≤ 64 → (IntKind.i64.wrap (1 * 2 ^ a0.toNat)) = ji3 := shl_small hji3
    have hji3u : (IntKind.i64.wrap (2 ^ min a0.toNat 64)) = ji3 := by have h_ := hji3_; rw [Int.one_mul] at h_; exact h_
    have hji3v : a0 ≤ 64 → (IntKind.i64.wrap (2 ^ a0.toNat)) = ji3 := fun hle_ => by have h_ := hji3z hle_; rw [Int.one_mul] at h_; exact h_
    have hji3y : (wrap64 (1 * 2 ^ min a0.toNat 64)) = ji3 := (i64_w _).symm.trans hji3_
    have hji3x : a0 ≤ 64 → (wrap64 (1 * 2 ^ a0.toNat)) = ji3 := fun h_ => (i64_w _).symm.trans (hji3z h_)
    obtain rfl := Option.some.inj H
    go_enter Try.func82, Try.ntmps82
    go_wp2
    go_ret
    exact ⟨by first | rfl | (simp; done) | (simp only [← hji3] <;> (first | rfl | simp)) | (simp [*]; done), by repeat (first | exact Drawn0.refl _ | apply Drawn0.step)⟩
  · rw [if_neg c2] at H
    exact absurd H (by simp)

/-! ### impl_rowToggles: function 77 -/
def impl_rowToggles.f (a0 : Int) (a1 : Bool) (a2 : Int) : Option (Int) := (impl_whole.f a0).bind fun t101 => (if a1 = true then (some (Go.bits .xor .i64 (Go.bits .and .i64 (Go.bits .xor .i64 (wrap64 (a2 * 2)) (a2 / 2)) t101) a2)) else (some (Go.bits .and .i64 (Go.bits .xor .i64 (wrap64 (a2 * 2)) (a2 / 2)) t101)))
set_option maxHeartbeats 8000000 in
set_option maxRecDepth 100000 in
theorem impl_rowToggles.calls (a0 : Int) (a1 : Bool) (a2 : Int) (r : Int) (w : World) (h : impl_rowToggles.f a0 a1 a2 = some r) :
    Calls Try.prog 77 #[.int .i64 a0, .bool a1, .int .i64 a2] w fun e w' => e = .returned (.int .i64 r) ∧ Drawn0 w w' := by
  have H : ((impl_whole.f a0).bind fun t101 => (if a1 = true then (some (Go.bits .xor .i64 (Go.bits .and .i64 (Go.bits .xor .i64 (wrap64 (a2 * 2)) (a2 / 2)) t101) a2)) else (some (Go.bits .and .i64 (Go.bits .xor .i64 (wrap64 (a2 * 2)) (a2 / 2)) t101)))) = some r := h
  clear h
  replace H := Option.bind_eq_some_iff.mp H
  obtain ⟨t101, A40, H⟩ := H
  replace H : (if a1 = true then (some (Go.bits .xor .i64 (Go.bits .and .i64 (Go.bits .xor .i64 (wrap64 (a2 * 2)) (a2 / 2)) t101) a2)) else (some (Go.bits .and .i64 (Go.bits .xor .i64 (wrap64 (a2 * 2)) (a2 / 2)) t101))) = some r := H
  have A4 := Aside0.mk A40
  clear A40
  by_cases c5 : a1 = true
  · subst c5
    have H1 : (some (Go.bits .xor .i64 (Go.bits .and .i64 (Go.bits .xor .i64 (wrap64 (a2 * 2)) (a2 / 2)) t101) a2)) = some r := by rw [if_pos rfl] at H; exact H
    clear H
    have H := H1
    clear H1
    obtain rfl := Option.some.inj H
    go_enter Try.func77, Try.ntmps77
    go_wp2_with (first | ((with_reducible refine gate_callee (f := 82) rfl ?_); refine goesL_ (some 14) rfl rfl Try.func82 (by kernel_rfl) rfl #[.int .i64 a0] rfl (by (try simp only [List.map_toArray, List.map_cons, List.map_nil]); first | done | rfl | (simp only [List.length_drop, List.length_take]; rfl)) ?_; (with_reducible refine (impl_whole.calls a0 t101 _ A4.out).mono ?_); rintro e w' ⟨rfl, ⟨nd, rfl⟩⟩; refine ⟨_, rfl, ?_⟩))
    go_ret
    exact ⟨by first | rfl | (simp; done) | (simp [*]; done), by repeat (first | exact Drawn0.refl _ | apply Drawn0.step)⟩
  · replace c5 := Bool.eq_false_iff.mpr c5
    subst c5
    have H1 : (some (Go.bits .and .i64 (Go.bits .xor .i64 (wrap64 (a2 * 2)) (a2 / 2)) t101)) = some r := by rw [if_neg (show ¬ (false = true) by decide)] at H; exact H
    clear H
    have H := H1
    clear H1
    obtain rfl := Option.some.inj H
    go_enter Try.func77, Try.ntmps77
    go_wp2_with (first | ((with_reducible refine gate_callee (f := 82) rfl ?_); refine goesL_ (some 14) rfl rfl Try.func82 (by kernel_rfl) rfl #[.int .i64 a0] rfl (by (try simp only [List.map_toArray, List.map_cons, List.map_nil]); first | done | rfl | (simp only [List.length_drop, List.length_take]; rfl)) ?_; (with_reducible refine (impl_whole.calls a0 t101 _ A4.out).mono ?_); rintro e w' ⟨rfl, ⟨nd, rfl⟩⟩; refine ⟨_, rfl, ?_⟩))
    go_ret
    exact ⟨by first | rfl | (simp; done) | (simp [*]; done), by repeat (first | exact Drawn0.refl _ | apply Drawn0.step)⟩

/-! ### impl_rowsBehind: function 74 -/
section
open Go.Proofs.Ytgnjndkbccakgaa.Bit Go.Proofs.Ytgnjndkbccakgaa.Gra Go.Proofs.Ytgnjndkbccakgaa.Row Go.Proofs.Ytgnjndkbccakgaa.Lin
theorem rb_toggles (c : Nat) (hc : c ≤ 16) (own : Bool) (row : Nat) (h : row < 2 ^ c) (w : World) : Calls Try.prog 77 #[.int .i64 (c : Int), .bool own, .int .i64 (row : Int)] w fun e w' => e = .returned (.int .i64 ((tog c own row : Nat) : Int)) ∧ Drawn0 w w' := by
  refine impl_rowToggles.calls _ _ _ _ w ?_
  have hp : (2 : Nat) ^ c ≤ 2 ^ 16 := Nat.pow_le_pow_right (by decide) hc
  have h1 : row < 2 ^ 16 := by omega
  have h2 : row * 2 ^^^ row / 2 < 2 ^ 63 := Nat.xor_lt_two_pow (by omega) (by omega)
  have h3 : (row * 2 ^^^ row / 2) &&& (2 ^ c - 1) < 2 ^ 63 := Nat.lt_of_lt_of_le (mask_lt _ _) (by omega)
  unfold impl_rowToggles.f impl_whole.f
  rw [if_pos (Int.natCast_nonneg _), wholen c (by omega), twice row (by omega), half, xorn _ _ (by omega) (by omega)]
  simp only [bs]
  rw [andn _ _ h2 (by omega), xorn _ _ h3 (by omega)]
  unfold tog
  cases own <;> simp
theorem rb_next (c : Nat) (own : Bool) (f i : Nat) : cr c own 0 f (i + 1) = ((cr c own 0 f i).2, tog c own (cr c own 0 f i).2 ^^^ (cr c own 0 f i).1) := by
  rw [cr]
  unfold rowOf
  rw [Nat.zero_div, Nat.zero_and, Nat.zero_xor, Nat.xor_comm]
set_option maxRecDepth 100000 in
set_option maxHeartbeats 1000000 in
theorem rowsBehind_run (c : Nat) (hc : c ≤ 16) (own : Bool) (f : Nat) (hf : f < 2 ^ c) (g : Nat) (lb : Array Value) (eg : ∀ args w, (callFunc g args).run Try.prog w = .ok (.enter g args) w) (K : Nat) (hK : K < 2 ^ 40) (Inv : Nat → World → Prop) (Fin : World → Prop)
    (hI : ∀ i W q, Inv i W → Inv i (W.drewN q))
    (hstep : ∀ i W, i < K → Inv i W → Calls Try.prog g (#[.int .i64 (i : Int), .int .i64 ((cr c own 0 f i).1 : Nat), .int .i64 ((cr c own 0 f i).2 : Nat)] ++ lb) W fun e w' => e = .returned (.bool true) ∧ Inv (i + 1) w')
    (hlast : ∀ W, Inv K W → Calls Try.prog g (#[.int .i64 (K : Int), .int .i64 ((cr c own 0 f K).1 : Nat), .int .i64 ((cr c own 0 f K).2 : Nat)] ++ lb) W fun e w' => e = .returned (.bool false) ∧ Fin w')
    (w : World) (h0 : Inv 0 w) :
    Calls Try.prog 74 #[.int .i64 (c : Int), .bool own, .int .i64 (f : Int), .func (.func g) #[] lb] w fun e w' => e = .returned (.tuple #[]) ∧ Fin w' := by
  have HS := Aside0.mk hstep
  have HL := Aside0.mk hlast
  have HI := Aside0.mk hI
  have HF := Aside0.mk hf
  have H0 := Aside0.mk h0
  clear hstep hlast hI hf h0
  go_enter Try.func74, Try.ntmps74
  go_wp2
  go_loopw [8, 9, 10] (fun s8 s9 s10 wr => ∃ i : Nat, i ≤ K ∧ s8 = .int .i64 ((cr c own 0 f i).1 : Nat) ∧ s9 = .int .i64 ((cr c own 0 f i).2 : Nat) ∧ s10 = .int .i64 i ∧ Aside0 (Inv i wr)) (fun _ _ s10 _ => K - (intOf s10).toNat)
  case atStart => exact ⟨0, Nat.zero_le _, rfl, rfl, rfl, H0⟩
  case round =>
    obtain ⟨i, hi, rfl, rfl, rfl, HV⟩ := hrel
    by_cases hlt : i < K
    · have hcall := HS.out i wr hlt HV.out
      obtain ⟨b1, b2⟩ := cr_lt own 0 HF.out i
      have ht := rb_toggles c hc own _ b2
      have HN := Aside0.mk (rb_next c own f i)
      have b3 := tog_lt own b2
      have hp : (2 : Nat) ^ c ≤ 2 ^ 16 := Nat.pow_le_pow_right (by decide) hc
      have HX := Aside0.mk (xorn (tog c own (cr c own 0 f i).2) (cr c own 0 f i).1 (by omega) (by omega))
      clear b1 b2 b3 hp
      generalize hx1 : (cr c own 0 f i).1 = x1 at *
      generalize hx2 : (cr c own 0 f i).2 = x2 at *
      have HX1 := Aside0.mk hx1
      have HX2 := Aside0.mk hx2
      clear hx1 hx2
      generalize htt : tog c own x2 = t at *
      have HT := Aside0.mk htt
      clear htt
      go_wp2_with (first | (go_at_fn g; refine hcall.mono ?_; rintro e w' ⟨rfl, HV2⟩) | (go_at_call 77; refine (ht _).mono ?_; rintro e w' ⟨rfl, ⟨q, rfl⟩⟩))
      go_roundw
      case rel => exact ⟨i + 1, by omega, by rw [HN.out], by rw [HN.out, HX.out], by go_num, ⟨HI.out _ _ _ HV2⟩⟩
      case measure => simp [intOf]; omega
    · obtain rfl : i = K := by omega
      have hcall := HL.out wr HV.out
      go_wp2_with (go_at_fn g; refine hcall.mono ?_; rintro e w' ⟨rfl, HV2⟩)
      go_end0
      exact ⟨rfl, HV2⟩
end

/-! ### impl_rowBehind: function 78 -/
section
open Go.Proofs.Ytgnjndkbccakgaa.Bit Go.Proofs.Ytgnjndkbccakgaa.Gra Go.Proofs.Ytgnjndkbccakgaa.Row Go.Proofs.Ytgnjndkbccakgaa.Lin
/-- Columns, a first row and a row's number in range. -/
def rbOk (c first k : Int) : Bool := decide (0 ≤ c) && decide (c ≤ 16) && decide (0 ≤ first) && decide (first < ((2 ^ c.toNat : Nat) : Int)) && decide (0 ≤ k) && decide (k ≤ 1000)
def impl_rowBehind.f (a0 : Int) (a1 : Bool) (a2 : Int) (a3 : Int) : Option (Int) := if rbOk a0 a2 a3 = true then some (((cr a0.toNat a1 0 a2.toNat a3.toNat).2 : Nat) : Int) else none
set_option maxHeartbeats 400000 in
theorem rbb_clo (Bo Bk : Nat) (hne : Bo ≠ Bk) (i b x K : Int) (v : Value) (W : World) (h1 : W.cell? ⟨Bo, 0, none⟩ = some v) (h2 : W.frozen? ⟨Bo, 0, none⟩ = false) (h3 : W.cell? ⟨Bk, 0, none⟩ = some (.int .i64 K)) (r : Bool) (hr : decide (i < K) = r) :
    Calls Try.prog 96 #[.int .i64 i, .int .i64 b, .int .i64 x, .pointer (some ⟨Bo, 0, none⟩), .pointer (some ⟨Bk, 0, none⟩)] W fun e w' => e = .returned (.bool r) ∧ w' = W.setCell ⟨Bo, 0, none⟩ (.int .i64 x) := by
  have h4 : (W.setCell ⟨Bo, 0, none⟩ (.int .i64 x)).cell? ⟨Bk, 0, none⟩ = some (.int .i64 K) := (World.cell?_setCell_far W ⟨Bo, 0, none⟩ ⟨Bk, 0, none⟩ _ hne).trans h3
  have HR := Aside0.mk hr
  clear hr hne h3
  go_enter Try.func96, Try.ntmps96
  go_wp2
  go_ret
  exact ⟨by rw [← HR.out]; rfl, rfl⟩
set_option maxHeartbeats 1000000 in
theorem impl_rowBehind.calls (a0 : Int) (a1 : Bool) (a2 : Int) (a3 : Int) (r : Int) (w : World) (h : impl_rowBehind.f a0 a1 a2 a3 = some r) :
    Calls Try.prog 78 #[.int .i64 a0, .bool a1, .int .i64 a2, .int .i64 a3] w fun e w' => e = .returned (.int .i64 r) ∧ Below w.heap.size w w' := by
  unfold impl_rowBehind.f at h
  by_cases hok : rbOk a0 a2 a3 = true
  · rw [if_pos hok] at h
    obtain rfl := Option.some.inj h
    clear h
    unfold rbOk at hok
    simp only [Bool.and_eq_true, decide_eq_true_eq] at hok
    obtain ⟨⟨⟨⟨⟨h0, h1⟩, h2⟩, h3⟩, h4⟩, h5⟩ := hok
    obtain ⟨c, rfl⟩ := Int.eq_ofNat_of_zero_le h0
    obtain ⟨f, rfl⟩ := Int.eq_ofNat_of_zero_le h2
    obtain ⟨K, rfl⟩ := Int.eq_ofNat_of_zero_le h4
    rw [Int.toNat_natCast] at h3
    simp only [Int.toNat_natCast]
    have hc : c ≤ 16 := by omega
    have hf : f < 2 ^ c := by omega
    have hK : K < 2 ^ 40 := by omega
    have hrun := rowsBehind_run c hc a1 f hf 96 #[.pointer (some ⟨w.heap.size + 1, 0, none⟩), .pointer (some ⟨w.heap.size, 0, none⟩)] (enters_of Try.func96 (by kernel_rfl) rfl) K hK
      (fun _ W => (∃ v, W.cell? ⟨w.heap.size + 1, 0, none⟩ = some v) ∧ W.frozen? ⟨w.heap.size + 1, 0, none⟩ = false ∧ W.cell? ⟨w.heap.size, 0, none⟩ = some (.int .i64 (K : Int)) ∧ Below w.heap.size w W)
      (fun W => W.cell? ⟨w.heap.size + 1, 0, none⟩ = some (.int .i64 ((cr c a1 0 f K).2 : Nat)) ∧ Below w.heap.size w W)
      (fun _ W q ⟨⟨v, e1⟩, e2, e3, e4⟩ => ⟨⟨v, by simpa using e1⟩, by simpa using e2, by simpa using e3, pw_below_drewN e4 q⟩)
      (fun i W hi ⟨⟨v, e1⟩, e2, e3, e4⟩ => by
        refine (rbb_clo (w.heap.size + 1) w.heap.size (by omega) (i : Int) _ _ (K : Int) v W e1 e2 e3 true (decide_eq_true (by omega))).mono ?_
        rintro e w' ⟨rfl, rfl⟩
        exact ⟨rfl, ⟨_, World.cell?_setCell_same' _ _ _ (by rw [e1]; rfl)⟩, by rw [World.frozen?_setCell]; exact e2, (World.cell?_setCell_far W ⟨w.heap.size + 1, 0, none⟩ ⟨w.heap.size, 0, none⟩ _ (by simp)).trans e3, e4.setCell (p := ⟨w.heap.size + 1, 0, none⟩) (by simp) _⟩)
      (fun W ⟨⟨v, e1⟩, e2, e3, e4⟩ => by
        refine (rbb_clo (w.heap.size + 1) w.heap.size (by omega) (K : Int) _ _ (K : Int) v W e1 e2 e3 false (decide_eq_false (by omega))).mono ?_
        rintro e w' ⟨rfl, rfl⟩
        exact ⟨rfl, World.cell?_setCell_same' _ _ _ (by rw [e1]; rfl), e4.setCell (p := ⟨w.heap.size + 1, 0, none⟩) (by simp) _⟩)
    clear h0 h1 h2 h3 h4 h5 hc hf hK
    generalize (((cr c a1 0 f K).2 : Nat) : Int) = r at *
    go_enter Try.func78, Try.ntmps78
    go_wp2_with fail
    refine (hrun _ ?_).mono ?_
    · refine ⟨⟨.int .i64 0, by simp⟩, by simp, by simp, ?_⟩
      exact ((Below.refl _ w).alloc (Nat.le_refl _) _).alloc (by simp) _
    rintro e w' ⟨rfl, hv, hb⟩
    go_wp2
    go_ret
    exact ⟨rfl, hb⟩
  · rw [if_neg hok] at h; cases h
end

end Go.Proofs.Ytgnjndkbccakgaa.PBas3

-- WRITTEN BY xprint.py, a program of this session, which runs the kit's print over functions with given contracts
namespace Go.Proofs.Ytgnjndkbccakgaa.PBas3
open Go.RowKit Go.Proofs.YtgnjndkbccakgaaW.PrintWords Go.Proofs.YtgnjndkbccakgaaW.PrintLast Go.Proofs.YtgnjndkbccakgaaW.PrintMore
attribute [local go_sem] max2_int min2_int max_two min_two max_three min_three max_four min_four   -- for this text's walks alone
set_option linter.unusedVariables false
set_option linter.unusedSimpArgs false

end Go.Proofs.Ytgnjndkbccakgaa.PBas3
