-- WRITTEN BY xprint.py, a program of this session, which runs the kit's print over functions with given contracts
import Derived.Test.YthjbccbaobkobaaPFnExactQuietRowsx0
namespace Go.Proofs.Ythjbccbaobkobaa.PFnExactQuietRows
open Go.RowKit Go.Proofs.YthjbccbaobkobaaW.PrintWords Go.Proofs.YthjbccbaobkobaaW.PrintLast Go.Proofs.YthjbccbaobkobaaW.PrintMore
attribute [local go_sem] max2_int min2_int max_two min_two max_three min_three max_four min_four   -- for this text's walks alone
set_option linter.unusedVariables false
set_option linter.unusedSimpArgs false

/-! ### spec_l1In: function 47 -/
def spec_l1In.f (a0 : Int) (a1 : Int) (a2 : Int) : Option (Bool) := if a0 ≥ a1 then (some (decide (a0 ≤ a2))) else (some false)
set_option maxHeartbeats 8000000 in
set_option maxRecDepth 100000 in
theorem spec_l1In.calls (a0 : Int) (a1 : Int) (a2 : Int) (r : Bool) (w : World) (h : spec_l1In.f a0 a1 a2 = some r) :
    Calls Try.prog 47 #[.int .i64 a0, .int .i64 a1, .int .i64 a2] w fun e w' => e = .returned (.bool r) ∧ Drawn0 w w' := by
  have H : (if a0 ≥ a1 then (some (decide (a0 ≤ a2))) else (some false)) = some r := h
  clear h
  by_cases c4 : a0 ≥ a1
  · rw [if_pos c4] at H
    have c4b0 : decide (a1 ≤ a0) = true := decide_eq_true c4
    clear c4
    obtain rfl := Option.some.inj H
    go_enter Try.func47, Try.ntmps47
    go_wp2
    go_ret
    exact ⟨by first | rfl | (simp; done) | (simp [*]; done), by repeat (first | exact Drawn0.refl _ | apply Drawn0.step)⟩
  · rw [if_neg c4] at H
    have c4b0 : decide (a1 ≤ a0) = false := decide_eq_false c4
    clear c4
    obtain rfl := Option.some.inj H
    go_enter Try.func47, Try.ntmps47
    go_wp2
    go_ret
    exact ⟨by first | rfl | (simp; done) | (simp [*]; done), by repeat (first | exact Drawn0.refl _ | apply Drawn0.step)⟩

/-! ### spec_csWide: function 46 -/
def spec_csWide.f (a0 : Int) (a1 : Int) : Option (Bool) := (spec_l1In.f a0 1 8).bind fun t101 => (if t101 = true then (if 0 ≤ a0 then ((spec_l1In.f a1 0 (wrap64 ((shl .i64 1 a0) - 1))).bind fun t102 => (some t102)) else (none)) else (some false))
set_option maxHeartbeats 8000000 in
set_option maxRecDepth 100000 in
theorem spec_csWide.calls (a0 : Int) (a1 : Int) (r : Bool) (w : World) (h : spec_csWide.f a0 a1 = some r) :
    Calls Try.prog 46 #[.int .i64 a0, .int .i64 a1] w fun e w' => e = .returned (.bool r) ∧ Drawn0 w w' := by
  have H : ((spec_l1In.f a0 1 8).bind fun t101 => (if t101 = true then (if 0 ≤ a0 then ((spec_l1In.f a1 0 (wrap64 ((shl .i64 1 a0) - 1))).bind fun t102 => (some t102)) else (none)) else (some false))) = some r := h
  clear h
  replace H := Option.bind_eq_some_iff.mp H
  obtain ⟨t101, A30, H⟩ := H
  replace H : (if t101 = true then (if 0 ≤ a0 then ((spec_l1In.f a1 0 (wrap64 ((shl .i64 1 a0) - 1))).bind fun t102 => (some t102)) else (none)) else (some false)) = some r := H
  have A3 := Aside0.mk A30
  clear A30
  by_cases c4 : t101 = true
  · subst c4
    have H1 : (if 0 ≤ a0 then ((spec_l1In.f a1 0 (wrap64 ((shl .i64 1 a0) - 1))).bind fun t102 => (some t102)) else (none)) = some r := by rw [if_pos rfl] at H; exact H
    clear H
    have H := H1
    clear H1
    by_cases c5 : 0 ≤ a0
    · rw [if_pos c5] at H
      have c5b0 := eq_true c5
      have c5b1 : decide (0 ≤ a0) = true := decide_eq_true c5
      clear c5
      obtain ⟨ji6, hji6⟩ : ∃ j_ : Int, (shl .i64 1 a0) = j_ := ⟨_, rfl⟩
      replace H : ((spec_l1In.f a1 0 (wrap64 ((ji6) - 1))).bind fun t102 => (some t102)) = some r := by first | (rw [hji6] at H; exact H) | (simp only [hji6] at H ⊢; exact H)
      (try rw [hji6] at A3)
      have hji6_ : (IntKind.i64.wrap (1 * 2 ^ min a0.toNat 64)) = ji6 := hji6
      have hji6z : a0 ≤ 64 → (IntKind.i64.wrap (1 * 2 ^ a0.toNat)) = ji6 := shl_small hji6
      have hji6u : (IntKind.i64.wrap (2 ^ min a0.toNat 64)) = ji6 := by have h_ := hji6_; rw [Int.one_mul] at h_; exact h_
      have hji6v : a0 ≤ 64 → (IntKind.i64.wrap (2 ^ a0.toNat)) = ji6 := fun hle_ => by have h_ := hji6z hle_; rw [Int.one_mul] at h_; exact h_
      have hji6y : (wrap64 (1 * 2 ^ min a0.toNat 64)) = ji6 := (i64_w _).symm.trans hji6_
      have hji6x : a0 ≤ 64 → (wrap64 (1 * 2 ^ a0.toNat)) = ji6 := fun h_ => (i64_w _).symm.trans (hji6z h_)
      replace H := Option.bind_eq_some_iff.mp H
      obtain ⟨t102, A70, H⟩ := H
      replace H : (some t102) = some r := H
      have A7 := Aside0.mk A70
      clear A70
      obtain rfl := Option.some.inj H
      go_enter Try.func46, Try.ntmps46
      go_wp2_with (first | ((with_reducible refine gate_callee (f := 47) rfl ?_); refine goesL_ (some 6) rfl rfl Try.func47 (by kernel_rfl) rfl #[.int .i64 a0, .int .i64 1, .int .i64 8] rfl (by (try simp only [List.map_toArray, List.map_cons, List.map_nil]); first | done | rfl | (simp only [List.length_drop, List.length_take]; rfl)) ?_; (with_reducible refine (spec_l1In.calls a0 1 8 true _ A3.out).mono ?_); rintro e w' ⟨rfl, ⟨nd, rfl⟩⟩; refine ⟨_, rfl, ?_⟩) | (go_at_call 47; (with_reducible refine (spec_l1In.calls a1 0 (wrap64 ((ji6) - 1)) t102 _ A7.out).mono ?_); rintro e w' ⟨rfl, ⟨nd, rfl⟩⟩))
      go_ret
      exact ⟨by first | rfl | (simp; done) | (simp only [← hji6] <;> (first | rfl | simp)) | (simp [*]; done), by repeat (first | exact Drawn0.refl _ | apply Drawn0.step)⟩
    · rw [if_neg c5] at H
      exact absurd H (by simp)
  · replace c4 := Bool.eq_false_iff.mpr c4
    subst c4
    have H1 : (some false) = some r := by rw [if_neg (show ¬ (false = true) by decide)] at H; exact H
    clear H
    have H := H1
    clear H1
    obtain rfl := Option.some.inj H
    go_enter Try.func46, Try.ntmps46
    go_wp2_with (first | ((with_reducible refine gate_callee (f := 47) rfl ?_); refine goesL_ (some 6) rfl rfl Try.func47 (by kernel_rfl) rfl #[.int .i64 a0, .int .i64 1, .int .i64 8] rfl (by (try simp only [List.map_toArray, List.map_cons, List.map_nil]); first | done | rfl | (simp only [List.length_drop, List.length_take]; rfl)) ?_; (with_reducible refine (spec_l1In.calls a0 1 8 false _ A3.out).mono ?_); rintro e w' ⟨rfl, ⟨nd, rfl⟩⟩; refine ⟨_, rfl, ?_⟩))
    go_ret
    exact ⟨by first | rfl | (simp; done) | (simp [*]; done), by repeat (first | exact Drawn0.refl _ | apply Drawn0.step)⟩

/-! ### spec_csToggles: function 77 -/
def spec_csToggles.f (a0 : Int) (a1 : Bool) (a2 : Int) : Option (Int) := if a1 = true then (if 0 ≤ a0 then (some (Go.bits .and .i64 (Go.bits .xor .i64 (Go.bits .xor .i64 (wrap64 (a2 * 2)) (a2 / 2)) a2) (wrap64 ((shl .i64 1 a0) - 1)))) else (none)) else (if 0 ≤ a0 then (some (Go.bits .and .i64 (Go.bits .xor .i64 (wrap64 (a2 * 2)) (a2 / 2)) (wrap64 ((shl .i64 1 a0) - 1)))) else (none))
set_option maxHeartbeats 8000000 in
set_option maxRecDepth 100000 in
theorem spec_csToggles.calls (a0 : Int) (a1 : Bool) (a2 : Int) (r : Int) (w : World) (h : spec_csToggles.f a0 a1 a2 = some r) :
    Calls Try.prog 77 #[.int .i64 a0, .bool a1, .int .i64 a2] w fun e w' => e = .returned (.int .i64 r) ∧ Drawn0 w w' := by
  have H : (if a1 = true then (if 0 ≤ a0 then (some (Go.bits .and .i64 (Go.bits .xor .i64 (Go.bits .xor .i64 (wrap64 (a2 * 2)) (a2 / 2)) a2) (wrap64 ((shl .i64 1 a0) - 1)))) else (none)) else (if 0 ≤ a0 then (some (Go.bits .and .i64 (Go.bits .xor .i64 (wrap64 (a2 * 2)) (a2 / 2)) (wrap64 ((shl .i64 1 a0) - 1)))) else (none))) = some r := h
  clear h
  by_cases c4 : a1 = true
  · subst c4
    have H1 : (if 0 ≤ a0 then (some (Go.bits .and .i64 (Go.bits .xor .i64 (Go.bits .xor .i64 (wrap64 (a2 * 2)) (a2 / 2)) a2) (wrap64 ((shl .i64 1 a0) - 1)))) else (none)) = some r := by rw [if_pos rfl] at H; exact H
    clear H
    have H := H1
    clear H1
    by_cases c5 : 0 ≤ a0
    · rw [if_pos c5] at H
      have c5b0 := eq_true c5
      have c5b1 : decide (0 ≤ a0) = true := decide_eq_true c5
      clear c5
      obtain ⟨ji6, hji6⟩ : ∃ j_ : Int, (shl .i64 1 a0) = j_ := ⟨_, rfl⟩
      replace H : (some (Go.bits .and .i64 (Go.bits .xor .i64 (Go.bits .xor .i64 (wrap64 (a2 * 2)) (a2 / 2)) a2) (wrap64 ((ji6) - 1)))) = some r := by first | (rw [hji6] at H; exact H) | (simp only [hji6] at H ⊢; exact H)
      have hji6_ : (IntKind.i64.wrap (1 * 2 ^ min a0.toNat 64)) = ji6 := hji6
      have hji6z : a0 ≤ 64 → (IntKind.i64.wrap (1 * 2 ^ a0.toNat)) = ji6 := shl_small hji6
      have hji6u : (IntKind.i64.wrap (2 ^ min a0.toNat 64)) = ji6 := by have h_ := hji6_; rw [Int.one_mul] at h_; exact h_
      have hji6v : a0 ≤ 64 → (IntKind.i64.wrap (2 ^ a0.toNat)) = ji6 := fun hle_ => by have h_ := hji6z hle_; rw [Int.one_mul] at h_; exact h_
      have hji6y : (wrap64 (1 * 2 ^ min a0.toNat 64)) = ji6 := (i64_w _).symm.trans hji6_
      have hji6x : a0 ≤ 64 → (wrap64 (1 * 2 ^ a0.toNat)) = ji6 := fun h_ => (i64_w _).symm.trans (hji6z h_)
      obtain rfl := Option.some.inj H
      go_enter Try.func77, Try.ntmps77
      go_wp2
      go_ret
      exact ⟨by first | rfl | (simp; done) | (simp only [← hji6] <;> (first | rfl | simp)) | (simp [*]; done), by repeat (first | exact Drawn0.refl _ | apply Drawn0.step)⟩
    · rw [if_neg c5] at H
      exact absurd H (by simp)
  · replace c4 := Bool.eq_false_iff.mpr c4
    subst c4
    have H1 : (if 0 ≤ a0 then (some (Go.bits .and .i64 (Go.bits .xor .i64 (wrap64 (a2 * 2)) (a2 / 2)) (wrap64 ((shl .i64 1 a0) - 1)))) else (none)) = some r := by rw [if_neg (show ¬ (false = true) by decide)] at H; exact H
    clear H
    have H := H1
    clear H1
    by_cases c7 : 0 ≤ a0
    · rw [if_pos c7] at H
      have c7b0 := eq_true c7
      have c7b1 : decide (0 ≤ a0) = true := decide_eq_true c7
      clear c7
      obtain ⟨ji8, hji8⟩ : ∃ j_ : Int, (shl .i64 1 a0) = j_ := ⟨_, rfl⟩
      replace H : (some (Go.bits .and .i64 (Go.bits .xor .i64 (wrap64 (a2 * 2)) (a2 / 2)) (wrap64 ((ji8) - 1)))) = some r := by first | (rw [hji8] at H; exact H) | (simp only [hji8] at H ⊢; exact H)
      have hji8_ : (IntKind.i64.wrap (1 * 2 ^ min a0.toNat 64)) = ji8 := hji8
      have hji8z : a0 ≤ 64 → (IntKind.i64.wrap (1 * 2 ^ a0.toNat)) = ji8 := shl_small hji8
      have hji8u : (IntKind.i64.wrap (2 ^ min a0.toNat 64)) = ji8 := by have h_ := hji8_; rw [Int.one_mul] at h_; exact h_
      have hji8v : a0 ≤ 64 → (IntKind.i64.wrap (2 ^ a0.toNat)) = ji8 := fun hle_ => by have h_ := hji8z hle_; rw [Int.one_mul] at h_; exact h_
      have hji8y : (wrap64 (1 * 2 ^ min a0.toNat 64)) = ji8 := (i64_w _).symm.trans hji8_
      have hji8x : a0 ≤ 64 → (wrap64 (1 * 2 ^ a0.toNat)) = ji8 := fun h_ => (i64_w _).symm.trans (hji8z h_)
      obtain rfl := Option.some.inj H
      go_enter Try.func77, Try.ntmps77
      go_wp2
      go_ret
      exact ⟨by first | rfl | (simp; done) | (simp only [← hji8] <;> (first | rfl | simp)) | (simp [*]; done), by repeat (first | exact Drawn0.refl _ | apply Drawn0.step)⟩
    · rw [if_neg c7] at H
      exact absurd H (by simp)

/-! ### spec_csBehind: function 48 -/
def spec_csBehind.l0 : Nat → Int → Bool → Int → Int → Int → Option (Int)
  | 0, _, _, _, _, _ => none
  | k + 1, x0, x1, x3, x9, x10 => if x3 > 0 then ((spec_csToggles.f x0 x1 x10).bind fun t103 => (spec_csBehind.l0 k x0 x1 (wrap64 (x3 - 1)) x10 (Go.bits .xor .i64 t103 x9))) else (some x10)
def spec_csBehind.f (k : Nat) (a0 : Int) (a1 : Bool) (a2 : Int) (a3 : Int) : Option (Int) := spec_csBehind.l0 k a0 a1 a3 0 a2
theorem spec_csBehind.mono_l : ∀ k, (∀ y0 y1 y2 y3 y4, LeO (spec_csBehind.l0 k y0 y1 y2 y3 y4) (spec_csBehind.l0 (k + 1) y0 y1 y2 y3 y4))
  | 0 => fun _ _ _ _ _ r h => by simp [spec_csBehind.l0] at h
  | k + 1 => by
    have ih0 := spec_csBehind.mono_l k
    · intro y0 y1 y2 y3 y4
      unfold spec_csBehind.l0
      repeat' first
      | (with_reducible exact ih0 _ _ _ _ _)
      | (with_reducible exact LeO.refl _)
      | (with_reducible exact LeO.none _)
      | (with_reducible refine LeO.ite ?_ ?_)
      | (with_reducible refine LeO.bind ?_ (fun _ => ?_))
      | exact ih0 _ _ _ _ _
      | exact LeO.none _
      | refine LeO.ite ?_ ?_
      | refine LeO.bind ?_ (fun _ => ?_)
theorem spec_csBehind.mono : ∀ a0 a1 a2 a3 k, LeO (spec_csBehind.f k a0 a1 a2 a3) (spec_csBehind.f (k + 1) a0 a1 a2 a3) := by
  intro a0 a1 a2 a3 k
  have ih0 := spec_csBehind.mono_l k
  unfold spec_csBehind.f
  repeat' first
      | (with_reducible exact ih0 _ _ _ _ _)
      | (with_reducible exact LeO.refl _)
      | (with_reducible exact LeO.none _)
      | (with_reducible refine LeO.ite ?_ ?_)
      | (with_reducible refine LeO.bind ?_ (fun _ => ?_))
      | exact ih0 _ _ _ _ _
      | exact LeO.none _
      | refine LeO.ite ?_ ?_
      | refine LeO.bind ?_ (fun _ => ?_)
set_option maxHeartbeats 8000000 in
set_option maxRecDepth 100000 in
theorem spec_csBehind.calls (k : Nat) (a0 : Int) (a1 : Bool) (a2 : Int) (a3 : Int) (r : Int) (w : World) (h : spec_csBehind.f k a0 a1 a2 a3 = some r) :
    Calls Try.prog 48 #[.int .i64 a0, .bool a1, .int .i64 a2, .int .i64 a3] w fun e w' => e = .returned (.int .i64 r) ∧ Drawn0 w w' := by
  have H : (spec_csBehind.l0 k a0 a1 a3 0 a2) = some r := h
  clear h
  have H' := Aside0.mk H
  clear H
  go_enter Try.func48, Try.ntmps48
  go_wp2
  go_loopg [3, 9, 10] k (fun kq v3 v9 v10 w' => ∃ (x3_1 : Int) (x9_1 : Int) (x10_1 : Int), v3 = .int .i64 x3_1 ∧ v9 = .int .i64 x9_1 ∧ v10 = .int .i64 x10_1 ∧ Aside0 (spec_csBehind.l0 kq a0 a1 x3_1 x9_1 x10_1 = some r) ∧ Aside0 (kq ≤ k) ∧ Drawn0 w w')
  case atStart => exact ⟨(a3), (0), (a2), (by first | rfl | (simp; done) | (simp [*]; done)), (by first | rfl | (simp; done) | (simp [*]; done)), (by first | rfl | (simp; done) | (simp [*]; done)), H', ⟨Nat.le_refl _⟩, by repeat (first | exact Drawn0.refl _ | apply Drawn0.step)⟩
  case round =>
    clear H'
    try clear p2
    try clear c4
    obtain ⟨x3_1, x9_1, x10_1, rfl, rfl, rfl, HA, HK1, ⟨m1, rfl⟩⟩ := hrel
    cases gk with
    | zero => exact absurd HA.out (by simp [spec_csBehind.l0])
    | succ k1 =>
      have H := HA.out
      clear HA
      simp only [spec_csBehind.l0] at H
      by_cases c5 : x3_1 > 0
      · rw [if_pos c5] at H
        have c5b0 : decide (0 < x3_1) = true := decide_eq_true c5
        clear c5
        replace H := Option.bind_eq_some_iff.mp H
        obtain ⟨t103, A60, H⟩ := H
        replace H : (spec_csBehind.l0 k1 a0 a1 (wrap64 (x3_1 - 1)) x10_1 (Go.bits .xor .i64 t103 x9_1)) = some r := H
        have A6 := Aside0.mk A60
        clear A60
        have H' := Aside0.mk H
        clear H
        go_wp2_with (first | ((with_reducible refine gate_callee (f := 77) rfl ?_); refine goesL_ (some 20) rfl rfl Try.func77 (by kernel_rfl) rfl #[.int .i64 a0, .bool a1, .int .i64 x10_1] rfl (by (try simp only [List.map_toArray, List.map_cons, List.map_nil]); first | done | rfl | (simp only [List.length_drop, List.length_take]; rfl)) ?_; (with_reducible refine (spec_csToggles.calls a0 a1 x10_1 t103 _ A6.out).mono ?_); rintro e w' ⟨rfl, ⟨nd, rfl⟩⟩; refine ⟨_, rfl, ?_⟩))
        go_roundg k1
        case measure => have := HK1.out; omega
        case rel => exact ⟨(wrap64 (x3_1 - 1)), (x10_1), (Go.bits .xor .i64 t103 x9_1), (by first | rfl | (simp; done) | (simp [*]; done)), (by first | rfl | (simp; done) | (simp [*]; done)), (by first | rfl | (simp; done) | (simp [*]; done)), H', ⟨by have := HK1.out; omega⟩, by repeat (first | exact Drawn0.refl _ | apply Drawn0.step)⟩
      · rw [if_neg c5] at H
        have c5b0 : decide (0 < x3_1) = false := decide_eq_false c5
        clear c5
        obtain rfl := Option.some.inj H
        go_wp2
        go_ret
        exact ⟨by first | rfl | (simp; done) | (simp [*]; done), by repeat (first | exact Drawn0.refl _ | apply Drawn0.step)⟩

/-! ### spec_QuietRows: function 15 -/
mutual
def spec_QuietRows.j0 : Nat → Int → Bool → Int → Int → Bool → Option (List Int × Bool)
  | 0, _, _, _, _, _ => none
  | k + 1, x0, x1, x2, x3, x24 => if x24 = true then (some (([] : List Int), false)) else (spec_QuietRows.l0 k x0 x1 x2 x3 ([] : List Int) 1)
def spec_QuietRows.l0 : Nat → Int → Bool → Int → Int → List Int → Int → Option (List Int × Bool)
  | 0, _, _, _, _, _, _ => none
  | k + 1, x0, x1, x2, x3, x10, x11 => if x11 ≤ x3 then ((spec_csBehind.f k x0 x1 x2 x11).bind fun t106 => (if t106 = 0 then (if x10.length < 17592186044416 then (spec_QuietRows.l0 k x0 x1 x2 x3 (x10 ++ [x11]) (wrap64 (x11 + 1))) else (none)) else (spec_QuietRows.l0 k x0 x1 x2 x3 x10 (wrap64 (x11 + 1))))) else (some (x10, true))
end
def spec_QuietRows.f (k : Nat) (a0 : Int) (a1 : Bool) (a2 : Int) (a3 : Int) : Option (List Int × Bool) := (spec_csWide.f a0 a2).bind fun t104 => (if t104 = true then (if a2 = 0 then (spec_QuietRows.j0 k a0 a1 a2 a3 true) else ((spec_l1In.f a3 0 200).bind fun t105 => (spec_QuietRows.j0 k a0 a1 a2 a3 (!t105)))) else (spec_QuietRows.j0 k a0 a1 a2 a3 true))
theorem spec_QuietRows.mono_l : ∀ k, (∀ y0 y1 y2 y3 y4, LeO (spec_QuietRows.j0 k y0 y1 y2 y3 y4) (spec_QuietRows.j0 (k + 1) y0 y1 y2 y3 y4)) ∧ (∀ y0 y1 y2 y3 y4 y5, LeO (spec_QuietRows.l0 k y0 y1 y2 y3 y4 y5) (spec_QuietRows.l0 (k + 1) y0 y1 y2 y3 y4 y5))
  | 0 => ⟨fun _ _ _ _ _ r h => by simp [spec_QuietRows.j0] at h, fun _ _ _ _ _ _ r h => by simp [spec_QuietRows.l0] at h⟩
  | k + 1 => by
    obtain ⟨ih0, ih1⟩ := spec_QuietRows.mono_l k
    refine ⟨?_, ?_⟩
    · intro y0 y1 y2 y3 y4
      unfold spec_QuietRows.j0
      repeat' first
      | (with_reducible exact ih0 _ _ _ _ _)
      | (with_reducible exact ih1 _ _ _ _ _ _)
      | (with_reducible exact spec_csBehind.mono _ _ _ _ _)
      | (with_reducible exact LeO.refl _)
      | (with_reducible exact LeO.none _)
      | (with_reducible refine LeO.ite ?_ ?_)
      | (with_reducible refine LeO.bind ?_ (fun _ => ?_))
      | exact ih0 _ _ _ _ _
      | exact ih1 _ _ _ _ _ _
      | exact spec_csBehind.mono _ _ _ _ _
      | exact LeO.none _
      | refine LeO.ite ?_ ?_
      | refine LeO.bind ?_ (fun _ => ?_)
    · intro y0 y1 y2 y3 y4 y5
      unfold spec_QuietRows.l0
      repeat' first
      | (with_reducible exact ih0 _ _ _ _ _)
      | (with_reducible exact ih1 _ _ _ _ _ _)
      | (with_reducible exact spec_csBehind.mono _ _ _ _ _)
      | (with_reducible exact LeO.refl _)
      | (with_reducible exact LeO.none _)
      | (with_reducible refine LeO.ite ?_ ?_)
      | (with_reducible refine LeO.bind ?_ (fun _ => ?_))
      | exact ih0 _ _ _ _ _
      | exact ih1 _ _ _ _ _ _
      | exact spec_csBehind.mono _ _ _ _ _
      | exact LeO.none _
      | refine LeO.ite ?_ ?_
      | refine LeO.bind ?_ (fun _ => ?_)
theorem spec_QuietRows.mono : ∀ a0 a1 a2 a3 k, LeO (spec_QuietRows.f k a0 a1 a2 a3) (spec_QuietRows.f (k + 1) a0 a1 a2 a3) := by
  intro a0 a1 a2 a3 k
  obtain ⟨ih0, ih1⟩ := spec_QuietRows.mono_l k
  unfold spec_QuietRows.f
  repeat' first
      | (with_reducible exact ih0 _ _ _ _ _)
      | (with_reducible exact ih1 _ _ _ _ _ _)
      | (with_reducible exact spec_csBehind.mono _ _ _ _ _)
      | (with_reducible exact LeO.refl _)
      | (with_reducible exact LeO.none _)
      | (with_reducible refine LeO.ite ?_ ?_)
      | (with_reducible refine LeO.bind ?_ (fun _ => ?_))
      | exact ih0 _ _ _ _ _
      | exact ih1 _ _ _ _ _ _
      | exact spec_csBehind.mono _ _ _ _ _
      | exact LeO.none _
      | refine LeO.ite ?_ ?_
      | refine LeO.bind ?_ (fun _ => ?_)
set_option maxHeartbeats 8000000 in
set_option maxRecDepth 100000 in
theorem spec_QuietRows.calls (k : Nat) (a0 : Int) (a1 : Bool) (a2 : Int) (a3 : Int) (r1 : List Int) (r2 : Bool) (w : World) (h : spec_QuietRows.f k a0 a1 a2 a3 = some (r1, r2)) :
    Calls Try.prog 15 #[.int .i64 a0, .bool a1, .int .i64 a2, .int .i64 a3] w fun e w' => ∃ v0_ : Value, e = .returned (.tuple #[v0_, .bool r2]) ∧ Kd.R (Kd.int .i64) 3 w' w.heap.size (fun _ => True) v0_ r1 ∧ Below w.heap.size w w' := by
  have HB := Aside0.mk (Below.refl w.heap.size w)
  have H : ((spec_csWide.f a0 a2).bind fun t104 => (if t104 = true then (if a2 = 0 then (spec_QuietRows.j0 k a0 a1 a2 a3 true) else ((spec_l1In.f a3 0 200).bind fun t105 => (spec_QuietRows.j0 k a0 a1 a2 a3 (!t105)))) else (spec_QuietRows.j0 k a0 a1 a2 a3 true))) = some (r1, r2) := h
  clear h
  have HC5 := Aside0.mk H
  clear H
  go_enter Try.func15, Try.ntmps15
  go_upto_region 1 with (fail)
  go_cut [24] (fun v24 wc => ∃ (kq : Nat) (x24_4 : Bool), v24 = .bool x24_4 ∧ Aside0 (spec_QuietRows.j0 kq a0 a1 a2 a3 x24_4 = some (r1, r2)) ∧ Aside0 (kq ≤ k) ∧ Aside0 (Below w.heap.size w wc))
  case first =>
    have H := HC5.out
    clear HC5
    replace H := Option.bind_eq_some_iff.mp H
    obtain ⟨t104, A60, H⟩ := H
    replace H : (if t104 = true then (if a2 = 0 then (spec_QuietRows.j0 k a0 a1 a2 a3 true) else ((spec_l1In.f a3 0 200).bind fun t105 => (spec_QuietRows.j0 k a0 a1 a2 a3 (!t105)))) else (spec_QuietRows.j0 k a0 a1 a2 a3 true)) = some (r1, r2) := H
    have A6 := Aside0.mk A60
    clear A60
    by_cases c7 : t104 = true
    · subst c7
      have H1 : (if a2 = 0 then (spec_QuietRows.j0 k a0 a1 a2 a3 true) else ((spec_l1In.f a3 0 200).bind fun t105 => (spec_QuietRows.j0 k a0 a1 a2 a3 (!t105)))) = some (r1, r2) := by rw [if_pos rfl] at H; exact H
      clear H
      have H := H1
      clear H1
      by_cases c8 : a2 = 0
      · rw [if_pos c8] at H
        have c8b0 : (a2 == 0) = true := beq_iff_eq.mpr c8
        have c8b1 : (a2 != 0) = false := bne_eq_false_iff_eq.mpr c8
        clear c8
        (first | rw [c8b0] | (simp only [i64_w, i32_w]; rw [c8b0]) | skip)
        have H' := Aside0.mk H
        clear H
        go_wp2_with (first | ((with_reducible refine gate_callee (f := 46) rfl ?_); refine goesL_ (some 14) rfl rfl Try.func46 (by kernel_rfl) rfl #[.int .i64 a0, .int .i64 a2] rfl (by (try simp only [List.map_toArray, List.map_cons, List.map_nil]); first | done | rfl | (simp only [List.length_drop, List.length_take]; rfl)) ?_; (with_reducible refine (spec_csWide.calls a0 a2 true _ A6.out).mono ?_); rintro e w' ⟨rfl, ⟨nd, rfl⟩⟩; refine ⟨_, rfl, ?_⟩))
        go_meet
        case rel => exact ⟨_, (true), (by first | rfl | (simp; done) | (simp [*]; done)), H', ⟨by first | omega | exact Nat.le_refl _⟩, ⟨by repeat (first | (with_reducible first | exact HB.out | apply below_alloc | apply pw_below_drewN | apply below_drew1) | exact HB.out)⟩⟩
      · rw [if_neg c8] at H
        have c8b0 : (a2 == 0) = false := beq_eq_false_iff_ne.mpr c8
        have c8b1 : (a2 != 0) = true := bne_iff_ne.mpr c8
        (first | rw [c8b0] | (simp only [i64_w, i32_w]; rw [c8b0]) | skip)
        replace H := Option.bind_eq_some_iff.mp H
        obtain ⟨t105, A90, H⟩ := H
        replace H : (spec_QuietRows.j0 k a0 a1 a2 a3 (!t105)) = some (r1, r2) := H
        have A9 := Aside0.mk A90
        clear A90
        have H' := Aside0.mk H
        clear H
        go_wp2_with (first | ((with_reducible refine gate_callee (f := 46) rfl ?_); refine goesL_ (some 14) rfl rfl Try.func46 (by kernel_rfl) rfl #[.int .i64 a0, .int .i64 a2] rfl (by (try simp only [List.map_toArray, List.map_cons, List.map_nil]); first | done | rfl | (simp only [List.length_drop, List.length_take]; rfl)) ?_; (with_reducible refine (spec_csWide.calls a0 a2 true _ A6.out).mono ?_); rintro e w' ⟨rfl, ⟨nd, rfl⟩⟩; refine ⟨_, rfl, ?_⟩) | (go_at_call 47; (with_reducible refine (spec_l1In.calls a3 0 200 t105 _ A9.out).mono ?_); rintro e w' ⟨rfl, ⟨nd, rfl⟩⟩))
        go_meet
        case rel => exact ⟨_, (!t105), (by first | rfl | (simp; done) | (simp [*]; done)), H', ⟨by first | omega | exact Nat.le_refl _⟩, ⟨by repeat (first | (with_reducible first | exact HB.out | apply below_alloc | apply pw_below_drewN | apply below_drew1) | exact HB.out)⟩⟩
    · replace c7 := Bool.eq_false_iff.mpr c7
      subst c7
      have H1 : (spec_QuietRows.j0 k a0 a1 a2 a3 true) = some (r1, r2) := by rw [if_neg (show ¬ (false = true) by decide)] at H; exact H
      clear H
      have H := H1
      clear H1
      have H' := Aside0.mk H
      clear H
      go_wp2_with (first | ((with_reducible refine gate_callee (f := 46) rfl ?_); refine goesL_ (some 14) rfl rfl Try.func46 (by kernel_rfl) rfl #[.int .i64 a0, .int .i64 a2] rfl (by (try simp only [List.map_toArray, List.map_cons, List.map_nil]); first | done | rfl | (simp only [List.length_drop, List.length_take]; rfl)) ?_; (with_reducible refine (spec_csWide.calls a0 a2 false _ A6.out).mono ?_); rintro e w' ⟨rfl, ⟨nd, rfl⟩⟩; refine ⟨_, rfl, ?_⟩))
      go_meet
      case rel => exact ⟨_, (true), (by first | rfl | (simp; done) | (simp [*]; done)), H', ⟨by first | omega | exact Nat.le_refl _⟩, ⟨by repeat (first | (with_reducible first | exact HB.out | apply below_alloc | apply pw_below_drewN | apply below_drew1) | exact HB.out)⟩⟩
  case rest =>
    clear HC5
    try clear c1
    try clear p2
    try clear c4
    try clear c7
    try clear c8
    try clear c8b0
    try clear c8b1
    obtain ⟨kq, x24_4, rfl, HA, HJ4, HB⟩ := hcut
    cases kq with
    | zero => exact absurd HA.out (by simp [spec_QuietRows.j0])
    | succ kj4 =>
      have H := HA.out
      clear HA
      simp only [spec_QuietRows.j0] at H
      by_cases c10 : x24_4 = true
      · subst c10
        have H1 : (some (([] : List Int), false)) = some (r1, r2) := by rw [if_pos rfl] at H; exact H
        clear H
        have H := H1
        clear H1
        simp only [Option.some.injEq, Prod.mk.injEq] at H
        obtain ⟨rfl, rfl⟩ := H
        go_wp2
        go_ret2
        exact ⟨_, by first | rfl | (simp [errW_none, errW_some] <;> rfl) | (simp [*, errW_none, errW_some] <;> rfl), by first | exact Kd.R_nil _ _ _ _ _ | exact Kd.N_nil _ _ _ _ _ | exact Kd.V_nil _ _ _ _ _ | exact Kd.Q_nil _ _ _ _ _ | exact Kd.S_nil _ _ _ _ _, by repeat (first | (with_reducible first | exact HB.out | apply below_alloc | apply pw_below_drewN | apply below_drew1) | exact HB.out)⟩
      · replace c10 := Bool.eq_false_iff.mpr c10
        subst c10
        have H1 : (spec_QuietRows.l0 kj4 a0 a1 a2 a3 ([] : List Int) 1) = some (r1, r2) := by rw [if_neg (show ¬ (false = true) by decide)] at H; exact H
        clear H
        have H := H1
        clear H1
        have H' := Aside0.mk H
        clear H
        go_wp2
        go_loopg [10, 11] kj4 (fun kq v10 v11 w' => ∃ (x10_2 : List Int) (x11_2 : Int), v11 = .int .i64 x11_2 ∧ Aside0 (spec_QuietRows.l0 kq a0 a1 a2 a3 x10_2 x11_2 = some (r1, r2)) ∧ Aside0 (kq ≤ kj4) ∧ Aside0 (Kd.R (Kd.int .i64) 3 w' w.heap.size (fun _ => True) v10 x10_2) ∧ Aside0 (Below w.heap.size w w'))
        case atStart => exact ⟨(([] : List Int)), (1), (by first | rfl | (simp; done) | (simp [*]; done)), H', ⟨Nat.le_refl _⟩, ⟨by first | exact Kd.R_nil _ _ _ _ _ | exact Kd.N_nil _ _ _ _ _ | exact Kd.V_nil _ _ _ _ _ | exact Kd.Q_nil _ _ _ _ _ | exact Kd.S_nil _ _ _ _ _⟩, ⟨by repeat (first | (with_reducible first | exact HB.out | apply below_alloc | apply pw_below_drewN | apply below_drew1) | exact HB.out)⟩⟩
        case round =>
          clear H'
          try clear c1
          try clear p2
          try clear c4
          try clear c7
          try clear c8
          try clear c8b0
          try clear c8b1
          try clear c10
          try clear p2
          obtain ⟨x10_2, x11_2, rfl, HA, HK2, HO_10, HB⟩ := hrel
          cases gk with
          | zero => exact absurd HA.out (by simp [spec_QuietRows.l0])
          | succ k2 =>
            have H := HA.out
            clear HA
            simp only [spec_QuietRows.l0] at H
            by_cases c11 : x11_2 ≤ a3
            · rw [if_pos c11] at H
              have c11b0 : decide (x11_2 ≤ a3) = true := decide_eq_true c11
              clear c11
              replace H := Option.bind_eq_some_iff.mp H
              obtain ⟨t106, A120, H⟩ := H
              replace H : (if t106 = 0 then (if x10_2.length < 17592186044416 then (spec_QuietRows.l0 k2 a0 a1 a2 a3 (x10_2 ++ [x11_2]) (wrap64 (x11_2 + 1))) else (none)) else (spec_QuietRows.l0 k2 a0 a1 a2 a3 x10_2 (wrap64 (x11_2 + 1)))) = some (r1, r2) := H
              have A12 := Aside0.mk A120
              clear A120
              by_cases c13 : t106 = 0
              · rw [if_pos c13] at H
                have c13b0 : (t106 == 0) = true := beq_iff_eq.mpr c13
                have c13b1 : (t106 != 0) = false := bne_eq_false_iff_eq.mpr c13
                clear c13
                by_cases c14 : x10_2.length < 17592186044416
                · rw [if_pos c14] at H
                  have LMc14 := Aside0.mk c14
                  clear c14
                  obtain ⟨y107, hy107⟩ : ∃ y_ : List Int, y_ = (x10_2 ++ [x11_2]) := ⟨_, rfl⟩
                  replace H : (spec_QuietRows.l0 k2 a0 a1 a2 a3 y107 (wrap64 (x11_2 + 1))) = some (r1, r2) := by first | (rw [hy107]; with_reducible exact H) | (have H2_ := (Option.bind_some _ _).symm.trans H; rw [hy107]; with_reducible exact H2_) | (have H2_ := (Option.bind_some _ _).symm.trans H; with_reducible exact H2_) | with_reducible exact H | (rw [hy107]; exact H) | exact H
                  have Ny107 := Aside0.mk hy107
                  clear hy107
                  have H' := Aside0.mk H
                  clear H
                  go_wp2_with (first | ((with_reducible refine gate_callee (f := 48) rfl ?_); refine goesL_ (some 34) rfl rfl Try.func48 (by kernel_rfl) rfl #[.int .i64 a0, .bool a1, .int .i64 a2, .int .i64 x11_2] rfl (by (try simp only [List.map_toArray, List.map_cons, List.map_nil]); first | done | rfl | (simp only [List.length_drop, List.length_take]; rfl)) ?_; (with_reducible refine (spec_csBehind.calls k2 a0 a1 a2 x11_2 t106 _ A12.out).mono ?_); rintro e w' ⟨rfl, ⟨nd, rfl⟩⟩; refine ⟨_, rfl, ?_⟩) | ((with_reducible refine gate_builtin (b := .append) (xs := #[.tmp 36, .tmp 38]) rfl ?_); at_builtin; refine Kd.R_append (Kd.int .i64) (w0 := w) w.heap.size rfl (.tmp 36) (.tmp 38) 22 3 (.int .i64 0) 8 rfl Try.underlying22 info3 rfl (by decide) (by omega) u10 x10_2 x11_2 [.int .i64 x11_2] (fun _ => True) (fun _ => False) rfl rfl ?aP (fun _ hk => hk.elim) ?aF ?aO ?aB ?aS ?aL ?_; (case aP => exact rfl); (case aB => exact (by repeat (first | (with_reducible first | exact HB.out | apply below_alloc | apply pw_below_drewN | apply below_drew1) | exact HB.out))); (case aF => exact (fun _ _ => trivial)); (case aO => exact (by (with_reducible repeat (first | apply Kd.R_alloc | apply Kd.R_drewN | apply Kd.R_drew)); exact HO_10.out)); (case aS => exact (below_size (by repeat (first | (with_reducible first | exact HB.out | apply below_alloc | apply pw_below_drewN | apply below_drew1) | exact HB.out)))); (case aL => have := LMc14.out; omega); intro v108 w15 ho hb hg hat; rw [← Ny107.out] at ho; have n0_ := Aside0.mk (hb); have n1_ := Aside0.mk (ho); clear HB; clear HO_10; have HB := n0_; have HO109 := n1_; clear n0_ n1_; clear ho hb hg hat))
                  go_roundg k2
                  case measure => have := HJ4.out; have := HK2.out; omega
                  case rel => exact ⟨(y107), (wrap64 (x11_2 + 1)), (by first | rfl | (simp; done) | (simp [*]; done)), H', ⟨by have := HJ4.out; have := HK2.out; omega⟩, ⟨by (with_reducible repeat (first | apply Kd.R_alloc | apply Kd.R_drewN | apply Kd.R_drew)); exact HO109.out⟩, ⟨by repeat (first | (with_reducible first | exact HB.out | apply below_alloc | apply pw_below_drewN | apply below_drew1) | exact HB.out)⟩⟩
                · rw [if_neg c14] at H
                  exact absurd H (by simp)
              · rw [if_neg c13] at H
                have c13b0 : (t106 == 0) = false := beq_eq_false_iff_ne.mpr c13
                have c13b1 : (t106 != 0) = true := bne_iff_ne.mpr c13
                have H' := Aside0.mk H
                clear H
                go_wp2_with (first | ((with_reducible refine gate_callee (f := 48) rfl ?_); refine goesL_ (some 34) rfl rfl Try.func48 (by kernel_rfl) rfl #[.int .i64 a0, .bool a1, .int .i64 a2, .int .i64 x11_2] rfl (by (try simp only [List.map_toArray, List.map_cons, List.map_nil]); first | done | rfl | (simp only [List.length_drop, List.length_take]; rfl)) ?_; (with_reducible refine (spec_csBehind.calls k2 a0 a1 a2 x11_2 t106 _ A12.out).mono ?_); rintro e w' ⟨rfl, ⟨nd, rfl⟩⟩; refine ⟨_, rfl, ?_⟩))
                go_roundg k2
                case measure => have := HJ4.out; have := HK2.out; omega
                case rel => exact ⟨(x10_2), (wrap64 (x11_2 + 1)), (by first | rfl | (simp; done) | (simp [*]; done)), H', ⟨by have := HJ4.out; have := HK2.out; omega⟩, ⟨by (with_reducible repeat (first | apply Kd.R_alloc | apply Kd.R_drewN | apply Kd.R_drew)); exact HO_10.out⟩, ⟨by repeat (first | (with_reducible first | exact HB.out | apply below_alloc | apply pw_below_drewN | apply below_drew1) | exact HB.out)⟩⟩
            · rw [if_neg c11] at H
              have c11b0 : decide (x11_2 ≤ a3) = false := decide_eq_false c11
              clear c11
              simp only [Option.some.injEq, Prod.mk.injEq] at H
              obtain ⟨rfl, rfl⟩ := H
              go_wp2
              go_ret2
              exact ⟨_, by first | rfl | (simp [errW_none, errW_some] <;> rfl) | (simp [*, errW_none, errW_some] <;> rfl), by (with_reducible repeat (first | apply Kd.R_alloc | apply Kd.R_drewN | apply Kd.R_drew)); exact HO_10.out, by repeat (first | (with_reducible first | exact HB.out | apply below_alloc | apply pw_below_drewN | apply below_drew1) | exact HB.out)⟩

/-! ### impl_in: function 50 -/
def impl_in.f (a0 : Int) (a1 : Int) (a2 : Int) : Option (Bool) := if a1 ≤ a0 then (some (decide (a0 ≤ a2))) else (some false)
set_option maxHeartbeats 8000000 in
set_option maxRecDepth 100000 in
theorem impl_in.calls (a0 : Int) (a1 : Int) (a2 : Int) (r : Bool) (w : World) (h : impl_in.f a0 a1 a2 = some r) :
    Calls Try.prog 50 #[.int .i64 a0, .int .i64 a1, .int .i64 a2] w fun e w' => e = .returned (.bool r) ∧ Drawn0 w w' := by
  have H : (if a1 ≤ a0 then (some (decide (a0 ≤ a2))) else (some false)) = some r := h
  clear h
  by_cases c4 : a1 ≤ a0
  · rw [if_pos c4] at H
    have c4b0 : decide (a1 ≤ a0) = true := decide_eq_true c4
    clear c4
    obtain rfl := Option.some.inj H
    go_enter Try.func50, Try.ntmps50
    go_wp2
    go_ret
    exact ⟨by first | rfl | (simp; done) | (simp [*]; done), by repeat (first | exact Drawn0.refl _ | apply Drawn0.step)⟩
  · rw [if_neg c4] at H
    have c4b0 : decide (a1 ≤ a0) = false := decide_eq_false c4
    clear c4
    obtain rfl := Option.some.inj H
    go_enter Try.func50, Try.ntmps50
    go_wp2
    go_ret
    exact ⟨by first | rfl | (simp; done) | (simp [*]; done), by repeat (first | exact Drawn0.refl _ | apply Drawn0.step)⟩

/-! ### slices_IndexFunc_int_int: function 87 -/
section
/-- A function value that answers p of each whole number, wherever what lay in w lies as it did; it may draw. -/
def PredOK (g : Nat) (lb : Array Value) (p : Int → Bool) (w : World) : Prop := ∀ W x, Below w.heap.size w W → Calls Try.prog g (#[.int .i64 x] ++ lb) W fun e w' => e = .returned (.bool (p x)) ∧ Drawn0 W w'
set_option maxRecDepth 100000 in
set_option maxHeartbeats 1000000 in
theorem indexFunc_run (g : Nat) (lb : Array Value) (p : Int → Bool) (eg : ∀ args w, (callFunc g args).run Try.prog w = .ok (.enter g args) w) (A : Option Addr) (c : Nat) (l : List Int) (w : World)
    (hp : PredOK g lb p w) (hr : Kd.C (Kd.int .i64) w A l.length l) (hc : l.length ≤ c) :
    Calls Try.prog 87 #[.slice A l.length c, .func (.func g) #[] lb] w fun e w' => (∃ i : Int, e = .returned (.int .i64 i) ∧ (0 ≤ i ↔ l.any p = true)) ∧ Drawn0 w w' := by
  have HP := Aside0.mk (show ∀ (x : Int) (q : Nat), Calls Try.prog g (#[.int .i64 x] ++ lb) (w.drewN q) fun e w' => e = .returned (.bool (p x)) ∧ Drawn0 (w.drewN q) w' from fun x q => hp _ x (pw_below_drewN (Below.refl _ w) q))
  clear hp
  have HC := Aside0.mk hr
  have hm := hr.2.1
  have HA := Aside0.mk (show l.any p = true ↔ ∃ i : Nat, i < l.length ∧ p (rd l (i : Int)) = true from by
    rw [List.any_eq_true]
    constructor
    · rintro ⟨x, hx, h⟩
      obtain ⟨i, hi, rfl⟩ := List.mem_iff_getElem.1 hx
      refine ⟨i, hi, ?_⟩
      unfold rd
      rw [Int.toNat_natCast, List.getD_eq_getElem?_getD, List.getElem?_eq_getElem hi]; exact h
    · rintro ⟨i, hi, h⟩
      refine ⟨l[i], List.getElem_mem hi, ?_⟩
      unfold rd at h
      rw [Int.toNat_natCast, List.getD_eq_getElem?_getD, List.getElem?_eq_getElem hi] at h; exact h)
  clear hr
  generalize hn : l.length = n at *
  clear hn
  generalize l.any p = r at *
  go_enter Try.func87, Try.ntmps87
  go_wp2
  go_loopw [8] (fun s wr => ∃ i : Nat, i ≤ n ∧ s = .int .i64 i ∧ Aside0 (∀ j, j < i → p (rd l (j : Int)) = false) ∧ Drawn0 w wr) (fun s _ => n - (intOf s).toNat)
  case atStart => exact ⟨0, Nat.zero_le _, rfl, ⟨fun j h => absurd h (Nat.not_lt_zero _)⟩, Drawn0.refl _⟩
  case round =>
    obtain ⟨i, hi, rfl, HJ, ⟨q, rfl⟩⟩ := hrel
    by_cases hlt : i < n
    · obtain ⟨ad, e1, hx⟩ := Kd.at_int (Kd.C_drewN HC.out q) (i : Int) (by omega) (by omega)
      subst e1
      rw [Int.toNat_natCast] at hx
      have hcall := HP.out (rd l (i : Int)) q
      cases hb : p (rd l (i : Int)) with
      | true =>
        have HT : Aside0 (r = true) := ⟨HA.out.2 ⟨i, hlt, hb⟩⟩
        rw [hb] at hcall
        clear hb
        generalize rd l (i : Int) = x at *
        go_wp2_with (go_at_fn g; refine hcall.mono ?_; rintro e w' ⟨rfl, ⟨q', rfl⟩⟩)
        go_ret
        exact ⟨⟨(i : Int), rfl, by simp [HT.out]⟩, ⟨⟨_, rfl⟩⟩⟩
      | false =>
        rw [hb] at hcall
        have HB := Aside0.mk hb
        clear hb
        generalize hxx : rd l (i : Int) = x at *
        have HX := Aside0.mk hxx
        clear hxx
        go_wp2_with (go_at_fn g; refine hcall.mono ?_; rintro e w' ⟨rfl, ⟨q', rfl⟩⟩)
        go_roundw
        case rel => exact ⟨i + 1, by omega, by go_num, ⟨fun j hj => by
          by_cases e : j = i
          · subst e; rw [HX.out]; exact HB.out
          · exact HJ.out j (by omega)⟩, ⟨⟨_, rfl⟩⟩⟩
        case measure => simp [intOf]; omega
    · obtain rfl : i = n := by omega
      have HF : Aside0 (r = false) := ⟨by
        cases r with
        | false => rfl
        | true =>
          obtain ⟨j, hj, h⟩ := HA.out.1 rfl
          rw [HJ.out j hj] at h; cases h⟩
      go_wp2
      go_ret
      exact ⟨⟨-1, rfl, by simp [HF.out]⟩, ⟨⟨_, rfl⟩⟩⟩
end

/-! ### slices_ContainsFunc_int_int: function 67 -/
section
set_option maxHeartbeats 400000 in
theorem containsFunc_run (g : Nat) (lb : Array Value) (p : Int → Bool) (eg : ∀ args w, (callFunc g args).run Try.prog w = .ok (.enter g args) w) (A : Option Addr) (c : Nat) (l : List Int) (w : World)
    (hp : PredOK g lb p w) (hr : Kd.C (Kd.int .i64) w A l.length l) (hc : l.length ≤ c) :
    Calls Try.prog 67 #[.slice A l.length c, .func (.func g) #[] lb] w fun e w' => e = .returned (.bool (l.any p)) ∧ Drawn0 w w' := by
  have hi := indexFunc_run g lb p eg A c l w hp hr hc
  clear hp hr hc
  generalize l.length = n at *
  generalize l.any p = r at *
  go_enter Try.func67, Try.ntmps67
  go_wp2_with fail
  refine hi.mono ?_
  rintro e w' ⟨⟨i, rfl, hir⟩, ⟨q, rfl⟩⟩
  by_cases h0 : 0 ≤ i
  · have HT := Aside0.mk (hir.1 h0)
    clear hir
    go_wp2
    go_ret
    exact ⟨by rw [HT.out]; rfl, ⟨⟨_, rfl⟩⟩⟩
  · have HF : Aside0 (r = false) := ⟨by
      cases r with
      | false => rfl
      | true => exact absurd (hir.2 rfl) h0⟩
    clear hir
    go_wp2
    go_ret
    exact ⟨by rw [HF.out, show (false : Bool) = decide (0 ≤ i) from (decide_eq_false (by omega)).symm]; rfl, ⟨⟨_, rfl⟩⟩⟩
end

/-! ### impl_whole: function 69 -/
def impl_whole.f (a0 : Int) : Option (Int) := if 0 ≤ a0 then (some (wrap64 ((shl .i64 1 a0) - 1))) else (none)
set_option maxHeartbeats 8000000 in
set_option maxRecDepth 100000 in
theorem impl_whole.calls (a0 : Int) (r : Int) (w : World) (h : impl_whole.f a0 = some r) :
    Calls Try.prog 69 #[.int .i64 a0] w fun e w' => e = .returned (.int .i64 r) ∧ Drawn0 w w' := by
  have H : (if 0 ≤ a0 then (some (wrap64 ((shl .i64 1 a0) - 1))) else (none)) = some r := h
  clear h
  by_cases c2 : 0 ≤ a0
  · rw [if_pos c2] at H
    have c2b0 := eq_true c2
    have c2b1 : decide (0 ≤ a0) = true := decide_eq_true c2
    clear c2
    obtain ⟨ji3, hji3⟩ : ∃ j_ : Int, (shl .i64 1 a0) = j_ := ⟨_, rfl⟩
    replace H : (some (wrap64 ((ji3) - 1))) = some r := by first | (rw [hji3] at H; exact H) | (simp only [hji3] at H ⊢; exact H)
    have hji3_ : (IntKind.i64.wrap (1 * 2 ^ min a0.toNat 64)) = ji3 := hji3
    have hji3z : a0 ≤ 64 → (IntKind.i64.wrap (1 * 2 ^ a0.toNat)) = ji3 := shl_small hji3
    have hji3u : (IntKind.i64.wrap (2 ^ min a0.toNat 64)) = ji3 := by have h_ := hji3_; rw [Int.one_mul] at h_; exact h_
    have hji3v : a0 ≤ 64 → (IntKind.i64.wrap (2 ^ a0.toNat)) = ji3 := fun hle_ => by have h_ := hji3z hle_; rw [Int.one_mul] at h_; exact h_
    have hji3y : (wrap64 (1 * 2 ^ min a0.toNat 64)) = ji3 := (i64_w _).symm.trans hji3_
    have hji3x : a0 ≤ 64 → (wrap64 (1 * 2 ^ a0.toNat)) = ji3 := fun h_ => (i64_w _).symm.trans (hji3z h_)
    obtain rfl := Option.some.inj H
    go_enter Try.func69, Try.ntmps69
    go_wp2
    go_ret
    exact ⟨by first | rfl | (simp; done) | (simp only [← hji3] <;> (first | rfl | simp)) | (simp [*]; done), by repeat (first | exact Drawn0.refl _ | apply Drawn0.step)⟩
  · rw [if_neg c2] at H
    exact absurd H (by simp)

/-! ### impl_isWide: function 49 -/
section
open Go.Proofs.Ythjbccbaobkobaa.Bit Go.Proofs.Ythjbccbaobkobaa.Gra
/-- A number is no row of c columns. -/
def noRow (c : Nat) (x : Int) : Bool := !(decide (0 ≤ x ∧ x ≤ ((2 ^ c - 1 : Nat) : Int)))
def impl_isWide.f (a0 : Int) (l1 : List Int) : Option (Bool) := some (decide (1 ≤ a0 ∧ a0 ≤ 8) && !(l1.any (noRow a0.toNat)))
theorem iw_in (a b c : Int) (w : World) : Calls Try.prog 50 #[.int .i64 a, .int .i64 b, .int .i64 c] w fun e w' => e = .returned (.bool (decide (b ≤ a ∧ a ≤ c))) ∧ Drawn0 w w' := by
  refine impl_in.calls a b c _ w ?_
  unfold impl_in.f
  split
  · rename_i h; simp [h]
  · rename_i h; simp [h]
theorem iw_whole (n : Nat) (hn : n ≤ 16) (w : World) : Calls Try.prog 69 #[.int .i64 (n : Int)] w fun e w' => e = .returned (.int .i64 ((2 ^ n - 1 : Nat) : Int)) ∧ Drawn0 w w' := by
  refine impl_whole.calls n _ w ?_
  unfold impl_whole.f
  rw [if_pos (Int.natCast_nonneg _), wholen n (by omega)]
set_option maxHeartbeats 400000 in
theorem iw_pred (c : Nat) (hc : c ≤ 8) (B : Nat) (w : World) (hB : B < w.heap.size) (hcell : w.cell? ⟨B, 0, none⟩ = some (.int .i64 (c : Int))) : PredOK 78 #[.pointer (some ⟨B, 0, none⟩)] (noRow c) w := fun W x hb => by
  have hcc : W.cell? ⟨B, 0, none⟩ = some (.int .i64 (c : Int)) := (hb.cell (p := ⟨B, 0, none⟩) hB).trans hcell
  show Calls Try.prog 78 #[.int .i64 x, .pointer (some ⟨B, 0, none⟩)] W _
  have h1 := iw_in x 0 ((2 ^ c - 1 : Nat) : Int)
  have h2 := iw_whole c (by omega)
  have HE : Aside0 (noRow c x = !(decide (0 ≤ x ∧ x ≤ ((2 ^ c - 1 : Nat) : Int)))) := ⟨rfl⟩
  generalize decide (0 ≤ x ∧ x ≤ ((2 ^ c - 1 : Nat) : Int)) = b at *
  generalize ((2 ^ c - 1 : Nat) : Int) = m at *
  clear hb hcell
  go_enter Try.func78, Try.ntmps78
  go_wp2_with fail
  refine (h2 _).mono ?_
  rintro e w' ⟨rfl, ⟨q, rfl⟩⟩
  go_wp2_with fail
  refine (h1 _).mono ?_
  rintro e w' ⟨rfl, ⟨q2, rfl⟩⟩
  go_wp2
  go_ret
  exact ⟨by rw [HE.out]; rfl, ⟨⟨_, rfl⟩⟩⟩
set_option maxHeartbeats 400000 in
theorem impl_isWide.calls (a0 : Int) (A1 : Option Addr) (c1 : Nat) (l1 : List Int) (r : Bool) (w : World) (hr1 : Kd.C (Kd.int .i64) w A1 l1.length l1) (hc1 : l1.length ≤ c1) (h : impl_isWide.f a0 l1 = some r) :
    Calls Try.prog 49 #[.int .i64 a0, .slice A1 l1.length c1] w fun e w' => e = .returned (.bool r) ∧ Below w.heap.size w w' := by
  have hr : (decide (1 ≤ a0 ∧ a0 ≤ 8) && !(l1.any (noRow a0.toNat))) = r := Option.some.inj h
  clear h
  have h1 := iw_in a0 1 8
  by_cases ha : 1 ≤ a0 ∧ a0 ≤ 8
  · rw [decide_eq_true ha] at h1 hr
    obtain ⟨c, rfl⟩ := Int.eq_ofNat_of_zero_le (show 0 ≤ a0 by omega)
    have hcf := containsFunc_run 78 #[.pointer (some ⟨w.heap.size, 0, none⟩)] (noRow c) (enters_of Try.func78 (by kernel_rfl) rfl) A1 c1 l1
    have hp := fun q => iw_pred c (by omega) w.heap.size ((w.alloc (.cells #[.int .i64 (c : Int)] 3)).drewN q) (by simp) (by simp)
    have hq := fun q => hcf ((w.alloc (.cells #[.int .i64 (c : Int)] 3)).drewN q) (hp q) (Kd.C_drewN (Kd.C_alloc hr1 _) q) hc1
    clear hcf hp hr1 hc1
    have HR := Aside0.mk hr
    clear hr
    rw [Int.toNat_natCast] at HR
    generalize l1.any (noRow c) = b at *
    generalize l1.length = n at *
    go_enter Try.func49, Try.ntmps49
    go_wp2_with fail
    refine (h1 _).mono ?_
    rintro e w' ⟨rfl, ⟨q, rfl⟩⟩
    go_wp2_with fail
    refine (hq _).mono ?_
    rintro e w' ⟨rfl, ⟨q2, rfl⟩⟩
    go_wp2
    go_ret
    exact ⟨by rw [← HR.out]; rfl, pw_below_drewN (below_alloc (Below.refl _ _) _) _⟩
  · rw [decide_eq_false ha] at h1 hr
    obtain rfl : false = r := hr
    clear ha
    generalize l1.length = n at *
    go_enter Try.func49, Try.ntmps49
    go_wp2_with fail
    refine (h1 _).mono ?_
    rintro e w' ⟨rfl, ⟨q, rfl⟩⟩
    go_wp2
    go_ret
    exact ⟨rfl, pw_below_drewN (below_alloc (Below.refl _ _) _) _⟩
end

/-! ### impl_rowToggles: function 79 -/
def impl_rowToggles.f (a0 : Int) (a1 : Bool) (a2 : Int) : Option (Int) := (impl_whole.f a0).bind fun t110 => (if a1 = true then (some (Go.bits .xor .i64 (Go.bits .and .i64 (Go.bits .xor .i64 (wrap64 (a2 * 2)) (a2 / 2)) t110) a2)) else (some (Go.bits .and .i64 (Go.bits .xor .i64 (wrap64 (a2 * 2)) (a2 / 2)) t110)))
set_option maxHeartbeats 8000000 in
set_option maxRecDepth 100000 in
theorem impl_rowToggles.calls (a0 : Int) (a1 : Bool) (a2 : Int) (r : Int) (w : World) (h : impl_rowToggles.f a0 a1 a2 = some r) :
    Calls Try.prog 79 #[.int .i64 a0, .bool a1, .int .i64 a2] w fun e w' => e = .returned (.int .i64 r) ∧ Drawn0 w w' := by
  have H : ((impl_whole.f a0).bind fun t110 => (if a1 = true then (some (Go.bits .xor .i64 (Go.bits .and .i64 (Go.bits .xor .i64 (wrap64 (a2 * 2)) (a2 / 2)) t110) a2)) else (some (Go.bits .and .i64 (Go.bits .xor .i64 (wrap64 (a2 * 2)) (a2 / 2)) t110)))) = some r := h
  clear h
  replace H := Option.bind_eq_some_iff.mp H
  obtain ⟨t110, A40, H⟩ := H
  replace H : (if a1 = true then (some (Go.bits .xor .i64 (Go.bits .and .i64 (Go.bits .xor .i64 (wrap64 (a2 * 2)) (a2 / 2)) t110) a2)) else (some (Go.bits .and .i64 (Go.bits .xor .i64 (wrap64 (a2 * 2)) (a2 / 2)) t110))) = some r := H
  have A4 := Aside0.mk A40
  clear A40
  by_cases c5 : a1 = true
  · subst c5
    have H1 : (some (Go.bits .xor .i64 (Go.bits .and .i64 (Go.bits .xor .i64 (wrap64 (a2 * 2)) (a2 / 2)) t110) a2)) = some r := by rw [if_pos rfl] at H; exact H
    clear H
    have H := H1
    clear H1
    obtain rfl := Option.some.inj H
    go_enter Try.func79, Try.ntmps79
    go_wp2_with (first | ((with_reducible refine gate_callee (f := 69) rfl ?_); refine goesL_ (some 14) rfl rfl Try.func69 (by kernel_rfl) rfl #[.int .i64 a0] rfl (by (try simp only [List.map_toArray, List.map_cons, List.map_nil]); first | done | rfl | (simp only [List.length_drop, List.length_take]; rfl)) ?_; (with_reducible refine (impl_whole.calls a0 t110 _ A4.out).mono ?_); rintro e w' ⟨rfl, ⟨nd, rfl⟩⟩; refine ⟨_, rfl, ?_⟩))
    go_ret
    exact ⟨by first | rfl | (simp; done) | (simp [*]; done), by repeat (first | exact Drawn0.refl _ | apply Drawn0.step)⟩
  · replace c5 := Bool.eq_false_iff.mpr c5
    subst c5
    have H1 : (some (Go.bits .and .i64 (Go.bits .xor .i64 (wrap64 (a2 * 2)) (a2 / 2)) t110)) = some r := by rw [if_neg (show ¬ (false = true) by decide)] at H; exact H
    clear H
    have H := H1
    clear H1
    obtain rfl := Option.some.inj H
    go_enter Try.func79, Try.ntmps79
    go_wp2_with (first | ((with_reducible refine gate_callee (f := 69) rfl ?_); refine goesL_ (some 14) rfl rfl Try.func69 (by kernel_rfl) rfl #[.int .i64 a0] rfl (by (try simp only [List.map_toArray, List.map_cons, List.map_nil]); first | done | rfl | (simp only [List.length_drop, List.length_take]; rfl)) ?_; (with_reducible refine (impl_whole.calls a0 t110 _ A4.out).mono ?_); rintro e w' ⟨rfl, ⟨nd, rfl⟩⟩; refine ⟨_, rfl, ?_⟩))
    go_ret
    exact ⟨by first | rfl | (simp; done) | (simp [*]; done), by repeat (first | exact Drawn0.refl _ | apply Drawn0.step)⟩

/-! ### impl_rowsBehind: function 51 -/
section
open Go.Proofs.Ythjbccbaobkobaa.Bit Go.Proofs.Ythjbccbaobkobaa.Gra Go.Proofs.Ythjbccbaobkobaa.Row Go.Proofs.Ythjbccbaobkobaa.Lin
theorem rb_toggles (c : Nat) (hc : c ≤ 16) (own : Bool) (row : Nat) (h : row < 2 ^ c) (w : World) : Calls Try.prog 79 #[.int .i64 (c : Int), .bool own, .int .i64 (row : Int)] w fun e w' => e = .returned (.int .i64 ((tog c own row : Nat) : Int)) ∧ Drawn0 w w' := by
  refine impl_rowToggles.calls _ _ _ _ w ?_
  have hp : (2 : Nat) ^ c ≤ 2 ^ 16 := Nat.pow_le_pow_right (by decide) hc
  have h1 : row < 2 ^ 16 := by omega
  have h2 : row * 2 ^^^ row / 2 < 2 ^ 63 := Nat.xor_lt_two_pow (by omega) (by omega)
  have h3 : (row * 2 ^^^ row / 2) &&& (2 ^ c - 1) < 2 ^ 63 := Nat.lt_of_lt_of_le (mask_lt _ _) (by omega)
  unfold impl_rowToggles.f impl_whole.f
  rw [if_pos (Int.natCast_nonneg _), wholen c (by omega), twice row (by omega), half, xorn _ _ (by omega) (by omega)]
  simp only [bs]
  rw [andn _ _ h2 (by omega), xorn _ _ h3 (by omega)]
  unfold tog
  cases own <;> simp
theorem rb_next (c : Nat) (own : Bool) (f i : Nat) : cr c own 0 f (i + 1) = ((cr c own 0 f i).2, tog c own (cr c own 0 f i).2 ^^^ (cr c own 0 f i).1) := by
  rw [cr]
  unfold rowOf
  rw [Nat.zero_div, Nat.zero_and, Nat.zero_xor, Nat.xor_comm]
set_option maxRecDepth 100000 in
set_option maxHeartbeats 1000000 in
theorem rowsBehind_run (c : Nat) (hc : c ≤ 16) (own : Bool) (f : Nat) (hf : f < 2 ^ c) (g : Nat) (lb : Array Value) (eg : ∀ args w, (callFunc g args).run Try.prog w = .ok (.enter g args) w) (K : Nat) (hK : K < 2 ^ 40) (Inv : Nat → World → Prop) (Fin : World → Prop)
    (hI : ∀ i W q, Inv i W → Inv i (W.drewN q))
    (hstep : ∀ i W, i < K → Inv i W → Calls Try.prog g (#[.int .i64 (i : Int), .int .i64 ((cr c own 0 f i).1 : Nat), .int .i64 ((cr c own 0 f i).2 : Nat)] ++ lb) W fun e w' => e = .returned (.bool true) ∧ Inv (i + 1) w')
    (hlast : ∀ W, Inv K W → Calls Try.prog g (#[.int .i64 (K : Int), .int .i64 ((cr c own 0 f K).1 : Nat), .int .i64 ((cr c own 0 f K).2 : Nat)] ++ lb) W fun e w' => e = .returned (.bool false) ∧ Fin w')
    (w : World) (h0 : Inv 0 w) :
    Calls Try.prog 51 #[.int .i64 (c : Int), .bool own, .int .i64 (f : Int), .func (.func g) #[] lb] w fun e w' => e = .returned (.tuple #[]) ∧ Fin w' := by
  have HS := Aside0.mk hstep
  have HL := Aside0.mk hlast
  have HI := Aside0.mk hI
  have HF := Aside0.mk hf
  have H0 := Aside0.mk h0
  clear hstep hlast hI hf h0
  go_enter Try.func51, Try.ntmps51
  go_wp2
  go_loopw [8, 9, 10] (fun s8 s9 s10 wr => ∃ i : Nat, i ≤ K ∧ s8 = .int .i64 ((cr c own 0 f i).1 : Nat) ∧ s9 = .int .i64 ((cr c own 0 f i).2 : Nat) ∧ s10 = .int .i64 i ∧ Aside0 (Inv i wr)) (fun _ _ s10 _ => K - (intOf s10).toNat)
  case atStart => exact ⟨0, Nat.zero_le _, rfl, rfl, rfl, H0⟩
  case round =>
    obtain ⟨i, hi, rfl, rfl, rfl, HV⟩ := hrel
    by_cases hlt : i < K
    · have hcall := HS.out i wr hlt HV.out
      obtain ⟨b1, b2⟩ := cr_lt own 0 HF.out i
      have ht := rb_toggles c hc own _ b2
      have HN := Aside0.mk (rb_next c own f i)
      have b3 := tog_lt own b2
      have hp : (2 : Nat) ^ c ≤ 2 ^ 16 := Nat.pow_le_pow_right (by decide) hc
      have HX := Aside0.mk (xorn (tog c own (cr c own 0 f i).2) (cr c own 0 f i).1 (by omega) (by omega))
      clear b1 b2 b3 hp
      generalize hx1 : (cr c own 0 f i).1 = x1 at *
      generalize hx2 : (cr c own 0 f i).2 = x2 at *
      have HX1 := Aside0.mk hx1
      have HX2 := Aside0.mk hx2
      clear hx1 hx2
      generalize htt : tog c own x2 = t at *
      have HT := Aside0.mk htt
      clear htt
      go_wp2_with (first | (go_at_fn g; refine hcall.mono ?_; rintro e w' ⟨rfl, HV2⟩) | (go_at_call 79; refine (ht _).mono ?_; rintro e w' ⟨rfl, ⟨q, rfl⟩⟩))
      go_roundw
      case rel => exact ⟨i + 1, by omega, by rw [HN.out], by rw [HN.out, HX.out], by go_num, ⟨HI.out _ _ _ HV2⟩⟩
      case measure => simp [intOf]; omega
    · obtain rfl : i = K := by omega
      have hcall := HL.out wr HV.out
      go_wp2_with (go_at_fn g; refine hcall.mono ?_; rintro e w' ⟨rfl, HV2⟩)
      go_end0
      exact ⟨rfl, HV2⟩
end

end Go.Proofs.Ythjbccbaobkobaa.PFnExactQuietRows
