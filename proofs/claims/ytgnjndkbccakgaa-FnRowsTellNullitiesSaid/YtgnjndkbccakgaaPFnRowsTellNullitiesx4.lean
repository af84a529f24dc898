-- WRITTEN BY xprint.py, a program of this session, which runs the kit's print over functions with given contracts
import Derived.Test.YtgnjndkbccakgaaPFnRowsTellNullitiesx1
import Derived.Test.YtgnjndkbccakgaaPFnRowsTellNullitiesx2
import Derived.Test.YtgnjndkbccakgaaPFnRowsTellNullitiesx3
namespace Go.Proofs.Ytgnjndkbccakgaa.PFnRowsTellNullities
open Go.RowKit Go.Proofs.YtgnjndkbccakgaaW.PrintWords Go.Proofs.YtgnjndkbccakgaaW.PrintLast Go.Proofs.YtgnjndkbccakgaaW.PrintMore
attribute [local go_sem] max2_int min2_int max_two min_two max_three min_three max_four min_four   -- for this text's walks alone
set_option linter.unusedVariables false
set_option linter.unusedSimpArgs false

/-! ### impl_RowToggles: function 35 -/
def impl_RowToggles.f (a0 : Int) (a1 : Bool) (a2 : Int) : Option (Int × Bool) := (impl_isWide.f a0 (([a2] : List Int))).bind fun t168 => (if t168 = true then ((impl_rowToggles.f a0 a1 a2).bind fun t169 => (some (t169, true))) else (some (0, false)))
set_option maxHeartbeats 8000000 in
set_option maxRecDepth 100000 in
theorem impl_RowToggles.calls (a0 : Int) (a1 : Bool) (a2 : Int) (r1 : Int) (r2 : Bool) (w : World) (h : impl_RowToggles.f a0 a1 a2 = some (r1, r2)) :
  Calls Try.prog 35 #[.int .i64 a0, .bool a1, .int .i64 a2] w fun e w' => e = .returned (.tuple #[.int .i64 r1, .bool r2]) ∧ Below w.heap.size w w' := by
 have HB := Aside0.mk (Below.refl w.heap.size w)
 have H : ((impl_isWide.f a0 (([a2] : List Int))).bind fun t168 => (if t168 = true then ((impl_rowToggles.f a0 a1 a2).bind fun t169 => (some (t169, true))) else (some (0, false)))) = some (r1, r2) := h
 clear h
 obtain ⟨y165, hy165⟩ : ∃ y_ : List Int, y_ = (([a2] : List Int)) := ⟨_, rfl⟩
 replace H : ((impl_isWide.f a0 y165).bind fun t168 => (if t168 = true then ((impl_rowToggles.f a0 a1 a2).bind fun t169 => (some (t169, true))) else (some (0, false)))) = some (r1, r2) := by first | (rw [hy165]; with_reducible exact H) | (have H2_ := (Option.bind_some _ _).symm.trans H; rw [hy165]; with_reducible exact H2_) | (have H2_ := (Option.bind_some _ _).symm.trans H; with_reducible exact H2_) | with_reducible exact H | (rw [hy165]; exact H) | exact H
 have Ny165 := Aside0.mk hy165
 clear hy165
 replace H := Option.bind_eq_some_iff.mp H
 obtain ⟨t168, A40, H⟩ := H
 replace H : (if t168 = true then ((impl_rowToggles.f a0 a1 a2).bind fun t169 => (some (t169, true))) else (some (0, false))) = some (r1, r2) := H
 have A4 := Aside0.mk A40
 clear A40
 by_cases c5 : t168 = true
 ·
  subst c5
  have H1 : ((impl_rowToggles.f a0 a1 a2).bind fun t169 => (some (t169, true))) = some (r1, r2) := by rw [if_pos rfl] at H; exact H
  clear H
  have H := H1
  clear H1
  replace H := Option.bind_eq_some_iff.mp H
  obtain ⟨t169, A60, H⟩ := H
  replace H : (some (t169, true)) = some (r1, r2) := H
  have A6 := Aside0.mk A60
  clear A60
  simp only [Option.some.injEq, Prod.mk.injEq] at H
  obtain ⟨rfl, rfl⟩ := H
  go_enter Try.func35, Try.ntmps35
  go_wp2_with (first | ((with_reducible refine gate_dst (N := 10) rfl ?_); refine Kd.R_lit (Kd.int .i64) _ 3 ?hg (N := 10) ?hd (xs := ([a2] : List Int)) (inner := [.int .i64 a2]) (ok := fun _ => True) (okp := fun _ => True) ?hr ?hp (fun _ hk => hk) trivial (Below.refl _ _) (Nat.le_refl _) (by simp) ?_; (case hd => rfl); (case hg => rfl); (case hr => first | (go_simp; done) | (go_simp; rfl)); (case hp => exact (Reps.one (show Kd.M (Kd.int .i64) _ _ _ a2 [.int .i64 a2] from rfl) (Reps.none _ _))); intro v166 w7 ho8 hb hg_ hnew_; clear hg_ hnew_; (first | rw [← Ny165.out] at ho8 | (simp only [Int.reduceToNat] at ho8; rw [← Ny165.out] at ho8)); have n0_ := Aside0.mk (Kd.R_lower ho8 (below_size (by repeat (first | (with_reducible first | exact HB.out | apply below_alloc | apply pw_below_drewN | apply below_drew1) | exact HB.out)))); have n1_ := Aside0.mk (below_step (by repeat (first | (with_reducible first | exact HB.out | apply below_alloc | apply pw_below_drewN | apply below_drew1) | exact HB.out)) hb); clear HB; have HO167 := n0_; have HB := n1_; clear n0_ n1_; clear hb ho8; obtain ⟨Ao9, co9, eo9⟩ := Kd.R_slice HO167.out; subst eo9) | ((with_reducible refine gate_callee (f := 56) rfl ?_); refine goesL_ (some 11) rfl rfl Try.func56 (by kernel_rfl) rfl #[.int .i64 a0, .slice Ao9 y165.length co9] rfl (by (try simp only [List.map_toArray, List.map_cons, List.map_nil]); first | done | rfl | (simp only [List.length_drop, List.length_take]; rfl)) ?_; (with_reducible refine (impl_isWide.calls a0 _ _ y165 true _ ?side1 ?side2 A4.out).mono ?_); (case side1 => repeat (first | exact (Kd.R_reads' HO167.out).2.2 | (with_reducible refine Kd.C_alloc ?_ _) | (with_reducible refine Kd.C_drewN ?_ _) | (with_reducible refine Kd.C_drew ?_))); (case side2 => exact (Kd.R_reads' HO167.out).2.1); rintro e w10 ⟨rfl, hb⟩; refine ⟨_, rfl, ?_⟩; have n0_ := Aside0.mk (Kd.R_below (by (with_reducible repeat (first | apply Kd.R_alloc | apply Kd.R_drewN | apply Kd.R_drew)); exact HO167.out) hb); have n1_ := Aside0.mk (below_step (by repeat (first | (with_reducible first | exact HB.out | apply below_alloc | apply pw_below_drewN | apply below_drew1) | exact HB.out)) hb); clear HO167; clear HB; have HO167 := n0_; have HB := n1_; clear n0_ n1_; (try clear hb); (try clear hb2); (try clear hk); (try clear hi)) | ((with_reducible refine gate_callee (f := 77) rfl ?_); refine goesL_ (some 16) rfl rfl Try.func77 (by kernel_rfl) rfl #[.int .i64 a0, .bool a1, .int .i64 a2] rfl (by (try simp only [List.map_toArray, List.map_cons, List.map_nil]); first | done | rfl | (simp only [List.length_drop, List.length_take]; rfl)) ?_; (with_reducible refine (impl_rowToggles.calls a0 a1 a2 t169 _ A6.out).mono ?_); rintro e w' ⟨rfl, ⟨nd, rfl⟩⟩; refine ⟨_, rfl, ?_⟩))
  go_ret2
  exact ⟨by first | rfl | (simp [errW_none, errW_some] <;> rfl) | (simp [*, errW_none, errW_some] <;> rfl), by repeat (first | (with_reducible first | exact HB.out | apply below_alloc | apply pw_below_drewN | apply below_drew1) | exact HB.out)⟩
 ·
  replace c5 := Bool.eq_false_iff.mpr c5
  subst c5
  have H1 : (some (0, false)) = some (r1, r2) := by rw [if_neg (show ¬ (false = true) by decide)] at H; exact H
  clear H
  have H := H1
  clear H1
  simp only [Option.some.injEq, Prod.mk.injEq] at H
  obtain ⟨rfl, rfl⟩ := H
  go_enter Try.func35, Try.ntmps35
  go_wp2_with (first | ((with_reducible refine gate_dst (N := 10) rfl ?_); refine Kd.R_lit (Kd.int .i64) _ 3 ?hg (N := 10) ?hd (xs := ([a2] : List Int)) (inner := [.int .i64 a2]) (ok := fun _ => True) (okp := fun _ => True) ?hr ?hp (fun _ hk => hk) trivial (Below.refl _ _) (Nat.le_refl _) (by simp) ?_; (case hd => rfl); (case hg => rfl); (case hr => first | (go_simp; done) | (go_simp; rfl)); (case hp => exact (Reps.one (show Kd.M (Kd.int .i64) _ _ _ a2 [.int .i64 a2] from rfl) (Reps.none _ _))); intro v166 w11 ho12 hb hg_ hnew_; clear hg_ hnew_; (first | rw [← Ny165.out] at ho12 | (simp only [Int.reduceToNat] at ho12; rw [← Ny165.out] at ho12)); have n0_ := Aside0.mk (Kd.R_lower ho12 (below_size (by repeat (first | (with_reducible first | exact HB.out | apply below_alloc | apply pw_below_drewN | apply below_drew1) | exact HB.out)))); have n1_ := Aside0.mk (below_step (by repeat (first | (with_reducible first | exact HB.out | apply below_alloc | apply pw_below_drewN | apply below_drew1) | exact HB.out)) hb); clear HB; have HO167 := n0_; have HB := n1_; clear n0_ n1_; clear hb ho12; obtain ⟨Ao13, co13, eo13⟩ := Kd.R_slice HO167.out; subst eo13) | ((with_reducible refine gate_callee (f := 56) rfl ?_); refine goesL_ (some 11) rfl rfl Try.func56 (by kernel_rfl) rfl #[.int .i64 a0, .slice Ao13 y165.length co13] rfl (by (try simp only [List.map_toArray, List.map_cons, List.map_nil]); first | done | rfl | (simp only [List.length_drop, List.length_take]; rfl)) ?_; (with_reducible refine (impl_isWide.calls a0 _ _ y165 false _ ?side1 ?side2 A4.out).mono ?_); (case side1 => repeat (first | exact (Kd.R_reads' HO167.out).2.2 | (with_reducible refine Kd.C_alloc ?_ _) | (with_reducible refine Kd.C_drewN ?_ _) | (with_reducible refine Kd.C_drew ?_))); (case side2 => exact (Kd.R_reads' HO167.out).2.1); rintro e w14 ⟨rfl, hb⟩; refine ⟨_, rfl, ?_⟩; have n0_ := Aside0.mk (Kd.R_below (by (with_reducible repeat (first | apply Kd.R_alloc | apply Kd.R_drewN | apply Kd.R_drew)); exact HO167.out) hb); have n1_ := Aside0.mk (below_step (by repeat (first | (with_reducible first | exact HB.out | apply below_alloc | apply pw_below_drewN | apply below_drew1) | exact HB.out)) hb); clear HO167; clear HB; have HO167 := n0_; have HB := n1_; clear n0_ n1_; (try clear hb); (try clear hb2); (try clear hk); (try clear hi)))
  go_ret2
  exact ⟨by first | rfl | (simp [errW_none, errW_some] <;> rfl) | (simp [*, errW_none, errW_some] <;> rfl), by repeat (first | (with_reducible first | exact HB.out | apply below_alloc | apply pw_below_drewN | apply below_drew1) | exact HB.out)⟩

/-! ### spec_RowToggles: function 36 -/
def spec_RowToggles.f (a0 : Int) (a1 : Bool) (a2 : Int) : Option (Int × Bool) := (spec_csWide.f a0 a2).bind fun t170 => (if t170 = true then ((spec_csToggles.f a0 a1 a2).bind fun t171 => (some (t171, true))) else (some (0, false)))
set_option maxHeartbeats 8000000 in
set_option maxRecDepth 100000 in
theorem spec_RowToggles.calls (a0 : Int) (a1 : Bool) (a2 : Int) (r1 : Int) (r2 : Bool) (w : World) (h : spec_RowToggles.f a0 a1 a2 = some (r1, r2)) :
  Calls Try.prog 36 #[.int .i64 a0, .bool a1, .int .i64 a2] w fun e w' => e = .returned (.tuple #[.int .i64 r1, .bool r2]) ∧ Drawn0 w w' := by
 have H : ((spec_csWide.f a0 a2).bind fun t170 => (if t170 = true then ((spec_csToggles.f a0 a1 a2).bind fun t171 => (some (t171, true))) else (some (0, false)))) = some (r1, r2) := h
 clear h
 replace H := Option.bind_eq_some_iff.mp H
 obtain ⟨t170, A40, H⟩ := H
 replace H : (if t170 = true then ((spec_csToggles.f a0 a1 a2).bind fun t171 => (some (t171, true))) else (some (0, false))) = some (r1, r2) := H
 have A4 := Aside0.mk A40
 clear A40
 by_cases c5 : t170 = true
 ·
  subst c5
  have H1 : ((spec_csToggles.f a0 a1 a2).bind fun t171 => (some (t171, true))) = some (r1, r2) := by rw [if_pos rfl] at H; exact H
  clear H
  have H := H1
  clear H1
  replace H := Option.bind_eq_some_iff.mp H
  obtain ⟨t171, A60, H⟩ := H
  replace H : (some (t171, true)) = some (r1, r2) := H
  have A6 := Aside0.mk A60
  clear A60
  simp only [Option.some.injEq, Prod.mk.injEq] at H
  obtain ⟨rfl, rfl⟩ := H
  go_enter Try.func36, Try.ntmps36
  go_wp2_with (first | ((with_reducible refine gate_callee (f := 69) rfl ?_); refine goesL_ (some 10) rfl rfl Try.func69 (by kernel_rfl) rfl #[.int .i64 a0, .int .i64 a2] rfl (by (try simp only [List.map_toArray, List.map_cons, List.map_nil]); first | done | rfl | (simp only [List.length_drop, List.length_take]; rfl)) ?_; (with_reducible refine (spec_csWide.calls a0 a2 true _ A4.out).mono ?_); rintro e w' ⟨rfl, ⟨nd, rfl⟩⟩; refine ⟨_, rfl, ?_⟩) | ((with_reducible refine gate_callee (f := 76) rfl ?_); refine goesL_ (some 15) rfl rfl Try.func76 (by kernel_rfl) rfl #[.int .i64 a0, .bool a1, .int .i64 a2] rfl (by (try simp only [List.map_toArray, List.map_cons, List.map_nil]); first | done | rfl | (simp only [List.length_drop, List.length_take]; rfl)) ?_; (with_reducible refine (spec_csToggles.calls a0 a1 a2 t171 _ A6.out).mono ?_); rintro e w' ⟨rfl, ⟨nd, rfl⟩⟩; refine ⟨_, rfl, ?_⟩))
  go_ret2
  exact ⟨by first | rfl | (simp; done) | (simp [*]; done), by repeat (first | exact Drawn0.refl _ | apply Drawn0.step)⟩
 ·
  replace c5 := Bool.eq_false_iff.mpr c5
  subst c5
  have H1 : (some (0, false)) = some (r1, r2) := by rw [if_neg (show ¬ (false = true) by decide)] at H; exact H
  clear H
  have H := H1
  clear H1
  simp only [Option.some.injEq, Prod.mk.injEq] at H
  obtain ⟨rfl, rfl⟩ := H
  go_enter Try.func36, Try.ntmps36
  go_wp2_with (first | ((with_reducible refine gate_callee (f := 69) rfl ?_); refine goesL_ (some 10) rfl rfl Try.func69 (by kernel_rfl) rfl #[.int .i64 a0, .int .i64 a2] rfl (by (try simp only [List.map_toArray, List.map_cons, List.map_nil]); first | done | rfl | (simp only [List.length_drop, List.length_take]; rfl)) ?_; (with_reducible refine (spec_csWide.calls a0 a2 false _ A4.out).mono ?_); rintro e w' ⟨rfl, ⟨nd, rfl⟩⟩; refine ⟨_, rfl, ?_⟩))
  go_ret2
  exact ⟨by first | rfl | (simp; done) | (simp [*]; done), by repeat (first | exact Drawn0.refl _ | apply Drawn0.step)⟩

/-! ### impl_rowBehind: function 78 -/
section
open Go.Proofs.Ytgnjndkbccakgaa.Bit Go.Proofs.Ytgnjndkbccakgaa.Gra Go.Proofs.Ytgnjndkbccakgaa.Row Go.Proofs.Ytgnjndkbccakgaa.Lin
/-- Columns, a first row and a row's number in range. -/
def rbOk (c first k : Int) : Bool := decide (0 ≤ c) && decide (c ≤ 16) && decide (0 ≤ first) && decide (first < ((2 ^ c.toNat : Nat) : Int)) && decide (0 ≤ k) && decide (k ≤ 1000)
def impl_rowBehind.f (a0 : Int) (a1 : Bool) (a2 : Int) (a3 : Int) : Option (Int) := if rbOk a0 a2 a3 = true then some (((cr a0.toNat a1 0 a2.toNat a3.toNat).2 : Nat) : Int) else none
set_option maxHeartbeats 400000 in
theorem rbb_clo (Bo Bk : Nat) (hne : Bo ≠ Bk) (i b x K : Int) (v : Value) (W : World) (h1 : W.cell? ⟨Bo, 0, none⟩ = some v) (h2 : W.frozen? ⟨Bo, 0, none⟩ = false) (h3 : W.cell? ⟨Bk, 0, none⟩ = some (.int .i64 K)) (r : Bool) (hr : decide (i < K) = r) :
    Calls Try.prog 96 #[.int .i64 i, .int .i64 b, .int .i64 x, .pointer (some ⟨Bo, 0, none⟩), .pointer (some ⟨Bk, 0, none⟩)] W fun e w' => e = .returned (.bool r) ∧ w' = W.setCell ⟨Bo, 0, none⟩ (.int .i64 x) := by
  have h4 : (W.setCell ⟨Bo, 0, none⟩ (.int .i64 x)).cell? ⟨Bk, 0, none⟩ = some (.int .i64 K) := (World.cell?_setCell_far W ⟨Bo, 0, none⟩ ⟨Bk, 0, none⟩ _ hne).trans h3
  have HR := Aside0.mk hr
  clear hr hne h3
  go_enter Try.func96, Try.ntmps96
  go_wp2
  go_ret
  exact ⟨by rw [← HR.out]; rfl, rfl⟩
set_option maxHeartbeats 1000000 in
theorem impl_rowBehind.calls (a0 : Int) (a1 : Bool) (a2 : Int) (a3 : Int) (r : Int) (w : World) (h : impl_rowBehind.f a0 a1 a2 a3 = some r) :
  Calls Try.prog 78 #[.int .i64 a0, .bool a1, .int .i64 a2, .int .i64 a3] w fun e w' => e = .returned (.int .i64 r) ∧ Below w.heap.size w w' := by
 unfold impl_rowBehind.f at h
 by_cases hok : rbOk a0 a2 a3 = true
 ·
  rw [if_pos hok] at h
  obtain rfl := Option.some.inj h
  clear h
  unfold rbOk at hok
  simp only [Bool.and_eq_true, decide_eq_true_eq] at hok
  obtain ⟨⟨⟨⟨⟨h0, h1⟩, h2⟩, h3⟩, h4⟩, h5⟩ := hok
  obtain ⟨c, rfl⟩ := Int.eq_ofNat_of_zero_le h0
  obtain ⟨f, rfl⟩ := Int.eq_ofNat_of_zero_le h2
  obtain ⟨K, rfl⟩ := Int.eq_ofNat_of_zero_le h4
  rw [Int.toNat_natCast] at h3
  simp only [Int.toNat_natCast]
  have hc : c ≤ 16 := by omega
  have hf : f < 2 ^ c := by omega
  have hK : K < 2 ^ 40 := by omega
  have hrun := rowsBehind_run c hc a1 f hf 96 #[.pointer (some ⟨w.heap.size + 1, 0, none⟩), .pointer (some ⟨w.heap.size, 0, none⟩)] (enters_of Try.func96 (by kernel_rfl) rfl) K hK
   (fun _ W => (∃ v, W.cell? ⟨w.heap.size + 1, 0, none⟩ = some v) ∧ W.frozen? ⟨w.heap.size + 1, 0, none⟩ = false ∧ W.cell? ⟨w.heap.size, 0, none⟩ = some (.int .i64 (K : Int)) ∧ Below w.heap.size w W)
   (fun W => W.cell? ⟨w.heap.size + 1, 0, none⟩ = some (.int .i64 ((cr c a1 0 f K).2 : Nat)) ∧ Below w.heap.size w W)
   (fun _ W q ⟨⟨v, e1⟩, e2, e3, e4⟩ => ⟨⟨v, by simpa using e1⟩, by simpa using e2, by simpa using e3, pw_below_drewN e4 q⟩)
   (fun i W hi ⟨⟨v, e1⟩, e2, e3, e4⟩ => by
     refine (rbb_clo (w.heap.size + 1) w.heap.size (by omega) (i : Int) _ _ (K : Int) v W e1 e2 e3 true (decide_eq_true (by omega))).mono ?_
     rintro e w' ⟨rfl, rfl⟩
     exact ⟨rfl, ⟨_, World.cell?_setCell_same' _ _ _ (by rw [e1]; rfl)⟩, by rw [World.frozen?_setCell]; exact e2, (World.cell?_setCell_far W ⟨w.heap.size + 1, 0, none⟩ ⟨w.heap.size, 0, none⟩ _ (by simp)).trans e3, e4.setCell (p := ⟨w.heap.size + 1, 0, none⟩) (by simp) _⟩)
   (fun W ⟨⟨v, e1⟩, e2, e3, e4⟩ => by
     refine (rbb_clo (w.heap.size + 1) w.heap.size (by omega) (K : Int) _ _ (K : Int) v W e1 e2 e3 false (decide_eq_false (by omega))).mono ?_
     rintro e w' ⟨rfl, rfl⟩
     exact ⟨rfl, World.cell?_setCell_same' _ _ _ (by rw [e1]; rfl), e4.setCell (p := ⟨w.heap.size + 1, 0, none⟩) (by simp) _⟩)
  clear h0 h1 h2 h3 h4 h5 hc hf hK
  generalize (((cr c a1 0 f K).2 : Nat) : Int) = r at *
  go_enter Try.func78, Try.ntmps78
  go_wp2_with fail
  refine (hrun _ ?_).mono ?_
  ·
   refine ⟨⟨.int .i64 0, by simp⟩, by simp, by simp, ?_⟩
   exact ((Below.refl _ w).alloc (Nat.le_refl _) _).alloc (by simp) _
  rintro e w' ⟨rfl, hv, hb⟩
  go_wp2
  go_ret
  exact ⟨rfl, hb⟩
 ·
  rw [if_neg hok] at h; cases h
end

/-! ### impl_RowBehind: function 37 -/
def impl_RowBehind.f (a0 : Int) (a1 : Bool) (a2 : Int) (a3 : Int) : Option (Int × Bool) := (impl_isWide.f a0 (([a2] : List Int))).bind fun t175 => (if t175 = true then ((impl_in.f a3 0 200).bind fun t176 => (if t176 = true then ((impl_rowBehind.f a0 a1 a2 a3).bind fun t177 => (some (t177, true))) else (some (0, false)))) else (some (0, false)))
set_option maxHeartbeats 8000000 in
set_option maxRecDepth 100000 in
theorem impl_RowBehind.calls (a0 : Int) (a1 : Bool) (a2 : Int) (a3 : Int) (r1 : Int) (r2 : Bool) (w : World) (h : impl_RowBehind.f a0 a1 a2 a3 = some (r1, r2)) :
  Calls Try.prog 37 #[.int .i64 a0, .bool a1, .int .i64 a2, .int .i64 a3] w fun e w' => e = .returned (.tuple #[.int .i64 r1, .bool r2]) ∧ Below w.heap.size w w' := by
 have HB := Aside0.mk (Below.refl w.heap.size w)
 have H : ((impl_isWide.f a0 (([a2] : List Int))).bind fun t175 => (if t175 = true then ((impl_in.f a3 0 200).bind fun t176 => (if t176 = true then ((impl_rowBehind.f a0 a1 a2 a3).bind fun t177 => (some (t177, true))) else (some (0, false)))) else (some (0, false)))) = some (r1, r2) := h
 clear h
 obtain ⟨y172, hy172⟩ : ∃ y_ : List Int, y_ = (([a2] : List Int)) := ⟨_, rfl⟩
 replace H : ((impl_isWide.f a0 y172).bind fun t175 => (if t175 = true then ((impl_in.f a3 0 200).bind fun t176 => (if t176 = true then ((impl_rowBehind.f a0 a1 a2 a3).bind fun t177 => (some (t177, true))) else (some (0, false)))) else (some (0, false)))) = some (r1, r2) := by first | (rw [hy172]; with_reducible exact H) | (have H2_ := (Option.bind_some _ _).symm.trans H; rw [hy172]; with_reducible exact H2_) | (have H2_ := (Option.bind_some _ _).symm.trans H; with_reducible exact H2_) | with_reducible exact H | (rw [hy172]; exact H) | exact H
 have Ny172 := Aside0.mk hy172
 clear hy172
 replace H := Option.bind_eq_some_iff.mp H
 obtain ⟨t175, A50, H⟩ := H
 replace H : (if t175 = true then ((impl_in.f a3 0 200).bind fun t176 => (if t176 = true then ((impl_rowBehind.f a0 a1 a2 a3).bind fun t177 => (some (t177, true))) else (some (0, false)))) else (some (0, false))) = some (r1, r2) := H
 have A5 := Aside0.mk A50
 clear A50
 by_cases c6 : t175 = true
 ·
  subst c6
  have H1 : ((impl_in.f a3 0 200).bind fun t176 => (if t176 = true then ((impl_rowBehind.f a0 a1 a2 a3).bind fun t177 => (some (t177, true))) else (some (0, false)))) = some (r1, r2) := by rw [if_pos rfl] at H; exact H
  clear H
  have H := H1
  clear H1
  replace H := Option.bind_eq_some_iff.mp H
  obtain ⟨t176, A70, H⟩ := H
  replace H : (if t176 = true then ((impl_rowBehind.f a0 a1 a2 a3).bind fun t177 => (some (t177, true))) else (some (0, false))) = some (r1, r2) := H
  have A7 := Aside0.mk A70
  clear A70
  by_cases c8 : t176 = true
  ·
   subst c8
   have H1 : ((impl_rowBehind.f a0 a1 a2 a3).bind fun t177 => (some (t177, true))) = some (r1, r2) := by rw [if_pos rfl] at H; exact H
   clear H
   have H := H1
   clear H1
   replace H := Option.bind_eq_some_iff.mp H
   obtain ⟨t177, A90, H⟩ := H
   replace H : (some (t177, true)) = some (r1, r2) := H
   have A9 := Aside0.mk A90
   clear A90
   simp only [Option.some.injEq, Prod.mk.injEq] at H
   obtain ⟨rfl, rfl⟩ := H
   go_enter Try.func37, Try.ntmps37
   go_wp2_with (first | ((with_reducible refine gate_dst (N := 12) rfl ?_); refine Kd.R_lit (Kd.int .i64) _ 3 ?hg (N := 12) ?hd (xs := ([a2] : List Int)) (inner := [.int .i64 a2]) (ok := fun _ => True) (okp := fun _ => True) ?hr ?hp (fun _ hk => hk) trivial (Below.refl _ _) (Nat.le_refl _) (by simp) ?_; (case hd => rfl); (case hg => rfl); (case hr => first | (go_simp; done) | (go_simp; rfl)); (case hp => exact (Reps.one (show Kd.M (Kd.int .i64) _ _ _ a2 [.int .i64 a2] from rfl) (Reps.none _ _))); intro v173 w10 ho11 hb hg_ hnew_; clear hg_ hnew_; (first | rw [← Ny172.out] at ho11 | (simp only [Int.reduceToNat] at ho11; rw [← Ny172.out] at ho11)); have n0_ := Aside0.mk (Kd.R_lower ho11 (below_size (by repeat (first | (with_reducible first | exact HB.out | apply below_alloc | apply pw_below_drewN | apply below_drew1) | exact HB.out)))); have n1_ := Aside0.mk (below_step (by repeat (first | (with_reducible first | exact HB.out | apply below_alloc | apply pw_below_drewN | apply below_drew1) | exact HB.out)) hb); clear HB; have HO174 := n0_; have HB := n1_; clear n0_ n1_; clear hb ho11; obtain ⟨Ao12, co12, eo12⟩ := Kd.R_slice HO174.out; subst eo12) | ((with_reducible refine gate_callee (f := 56) rfl ?_); refine goesL_ (some 13) rfl rfl Try.func56 (by kernel_rfl) rfl #[.int .i64 a0, .slice Ao12 y172.length co12] rfl (by (try simp only [List.map_toArray, List.map_cons, List.map_nil]); first | done | rfl | (simp only [List.length_drop, List.length_take]; rfl)) ?_; (with_reducible refine (impl_isWide.calls a0 _ _ y172 true _ ?side1 ?side2 A5.out).mono ?_); (case side1 => repeat (first | exact (Kd.R_reads' HO174.out).2.2 | (with_reducible refine Kd.C_alloc ?_ _) | (with_reducible refine Kd.C_drewN ?_ _) | (with_reducible refine Kd.C_drew ?_))); (case side2 => exact (Kd.R_reads' HO174.out).2.1); rintro e w13 ⟨rfl, hb⟩; refine ⟨_, rfl, ?_⟩; have n0_ := Aside0.mk (Kd.R_below (by (with_reducible repeat (first | apply Kd.R_alloc | apply Kd.R_drewN | apply Kd.R_drew)); exact HO174.out) hb); have n1_ := Aside0.mk (below_step (by repeat (first | (with_reducible first | exact HB.out | apply below_alloc | apply pw_below_drewN | apply below_drew1) | exact HB.out)) hb); clear HO174; clear HB; have HO174 := n0_; have HB := n1_; clear n0_ n1_; (try clear hb); (try clear hb2); (try clear hk); (try clear hi)) | (go_at_call 57; (with_reducible refine (impl_in.calls a3 0 200 true _ A7.out).mono ?_); rintro e w' ⟨rfl, ⟨nd, rfl⟩⟩) | ((with_reducible refine gate_callee (f := 78) rfl ?_); refine goesL_ (some 24) rfl rfl Try.func78 (by kernel_rfl) rfl #[.int .i64 a0, .bool a1, .int .i64 a2, .int .i64 a3] rfl (by (try simp only [List.map_toArray, List.map_cons, List.map_nil]); first | done | rfl | (simp only [List.length_drop, List.length_take]; rfl)) ?_; (with_reducible refine (impl_rowBehind.calls a0 a1 a2 a3 t177 _ A9.out).mono ?_); rintro e w14 ⟨rfl, hb⟩; refine ⟨_, rfl, ?_⟩; have n0_ := Aside0.mk (Kd.R_below (by (with_reducible repeat (first | apply Kd.R_alloc | apply Kd.R_drewN | apply Kd.R_drew)); exact HO174.out) hb); have n1_ := Aside0.mk (below_step (by repeat (first | (with_reducible first | exact HB.out | apply below_alloc | apply pw_below_drewN | apply below_drew1) | exact HB.out)) hb); clear HO174; clear HB; have HO174 := n0_; have HB := n1_; clear n0_ n1_; (try clear hb); (try clear hb2); (try clear hk); (try clear hi)))
   go_ret2
   exact ⟨by first | rfl | (simp [errW_none, errW_some] <;> rfl) | (simp [*, errW_none, errW_some] <;> rfl), by repeat (first | (with_reducible first | exact HB.out | apply below_alloc | apply pw_below_drewN | apply below_drew1) | exact HB.out)⟩
  ·
   replace c8 := Bool.eq_false_iff.mpr c8
   subst c8
   have H1 : (some (0, false)) = some (r1, r2) := by rw [if_neg (show ¬ (false = true) by decide)] at H; exact H
   clear H
   have H := H1
   clear H1
   simp only [Option.some.injEq, Prod.mk.injEq] at H
   obtain ⟨rfl, rfl⟩ := H
   go_enter Try.func37, Try.ntmps37
   go_wp2_with (first | ((with_reducible refine gate_dst (N := 12) rfl ?_); refine Kd.R_lit (Kd.int .i64) _ 3 ?hg (N := 12) ?hd (xs := ([a2] : List Int)) (inner := [.int .i64 a2]) (ok := fun _ => True) (okp := fun _ => True) ?hr ?hp (fun _ hk => hk) trivial (Below.refl _ _) (Nat.le_refl _) (by simp) ?_; (case hd => rfl); (case hg => rfl); (case hr => first | (go_simp; done) | (go_simp; rfl)); (case hp => exact (Reps.one (show Kd.M (Kd.int .i64) _ _ _ a2 [.int .i64 a2] from rfl) (Reps.none _ _))); intro v173 w15 ho16 hb hg_ hnew_; clear hg_ hnew_; (first | rw [← Ny172.out] at ho16 | (simp only [Int.reduceToNat] at ho16; rw [← Ny172.out] at ho16)); have n0_ := Aside0.mk (Kd.R_lower ho16 (below_size (by repeat (first | (with_reducible first | exact HB.out | apply below_alloc | apply pw_below_drewN | apply below_drew1) | exact HB.out)))); have n1_ := Aside0.mk (below_step (by repeat (first | (with_reducible first | exact HB.out | apply below_alloc | apply pw_below_drewN | apply below_drew1) | exact HB.out)) hb); clear HB; have HO174 := n0_; have HB := n1_; clear n0_ n1_; clear hb ho16; obtain ⟨Ao17, co17, eo17⟩ := Kd.R_slice HO174.out; subst eo17) | ((with_reducible refine gate_callee (f := 56) rfl ?_); refine goesL_ (some 13) rfl rfl Try.func56 (by kernel_rfl) rfl #[.int .i64 a0, .slice Ao17 y172.length co17] rfl (by (try simp only [List.map_toArray, List.map_cons, List.map_nil]); first | done | rfl | (simp only [List.length_drop, List.length_take]; rfl)) ?_; (with_reducible refine (impl_isWide.calls a0 _ _ y172 true _ ?side1 ?side2 A5.out).mono ?_); (case side1 => repeat (first | exact (Kd.R_reads' HO174.out).2.2 | (with_reducible refine Kd.C_alloc ?_ _) | (with_reducible refine Kd.C_drewN ?_ _) | (with_reducible refine Kd.C_drew ?_))); (case side2 => exact (Kd.R_reads' HO174.out).2.1); rintro e w18 ⟨rfl, hb⟩; refine ⟨_, rfl, ?_⟩; have n0_ := Aside0.mk (Kd.R_below (by (with_reducible repeat (first | apply Kd.R_alloc | apply Kd.R_drewN | apply Kd.R_drew)); exact HO174.out) hb); have n1_ := Aside0.mk (below_step (by repeat (first | (with_reducible first | exact HB.out | apply below_alloc | apply pw_below_drewN | apply below_drew1) | exact HB.out)) hb); clear HO174; clear HB; have HO174 := n0_; have HB := n1_; clear n0_ n1_; (try clear hb); (try clear hb2); (try clear hk); (try clear hi)) | (go_at_call 57; (with_reducible refine (impl_in.calls a3 0 200 false _ A7.out).mono ?_); rintro e w' ⟨rfl, ⟨nd, rfl⟩⟩))
   go_ret2
   exact ⟨by first | rfl | (simp [errW_none, errW_some] <;> rfl) | (simp [*, errW_none, errW_some] <;> rfl), by repeat (first | (with_reducible first | exact HB.out | apply below_alloc | apply pw_below_drewN | apply below_drew1) | exact HB.out)⟩
 ·
  replace c6 := Bool.eq_false_iff.mpr c6
  subst c6
  have H1 : (some (0, false)) = some (r1, r2) := by rw [if_neg (show ¬ (false = true) by decide)] at H; exact H
  clear H
  have H := H1
  clear H1
  simp only [Option.some.injEq, Prod.mk.injEq] at H
  obtain ⟨rfl, rfl⟩ := H
  go_enter Try.func37, Try.ntmps37
  go_wp2_with (first | ((with_reducible refine gate_dst (N := 12) rfl ?_); refine Kd.R_lit (Kd.int .i64) _ 3 ?hg (N := 12) ?hd (xs := ([a2] : List Int)) (inner := [.int .i64 a2]) (ok := fun _ => True) (okp := fun _ => True) ?hr ?hp (fun _ hk => hk) trivial (Below.refl _ _) (Nat.le_refl _) (by simp) ?_; (case hd => rfl); (case hg => rfl); (case hr => first | (go_simp; done) | (go_simp; rfl)); (case hp => exact (Reps.one (show Kd.M (Kd.int .i64) _ _ _ a2 [.int .i64 a2] from rfl) (Reps.none _ _))); intro v173 w19 ho20 hb hg_ hnew_; clear hg_ hnew_; (first | rw [← Ny172.out] at ho20 | (simp only [Int.reduceToNat] at ho20; rw [← Ny172.out] at ho20)); have n0_ := Aside0.mk (Kd.R_lower ho20 (below_size (by repeat (first | (with_reducible first | exact HB.out | apply below_alloc | apply pw_below_drewN | apply below_drew1) | exact HB.out)))); have n1_ := Aside0.mk (below_step (by repeat (first | (with_reducible first | exact HB.out | apply below_alloc | apply pw_below_drewN | apply below_drew1) | exact HB.out)) hb); clear HB; have HO174 := n0_; have HB := n1_; clear n0_ n1_; clear hb ho20; obtain ⟨Ao21, co21, eo21⟩ := Kd.R_slice HO174.out; subst eo21) | ((with_reducible refine gate_callee (f := 56) rfl ?_); refine goesL_ (some 13) rfl rfl Try.func56 (by kernel_rfl) rfl #[.int .i64 a0, .slice Ao21 y172.length co21] rfl (by (try simp only [List.map_toArray, List.map_cons, List.map_nil]); first | done | rfl | (simp only [List.length_drop, List.length_take]; rfl)) ?_; (with_reducible refine (impl_isWide.calls a0 _ _ y172 false _ ?side1 ?side2 A5.out).mono ?_); (case side1 => repeat (first | exact (Kd.R_reads' HO174.out).2.2 | (with_reducible refine Kd.C_alloc ?_ _) | (with_reducible refine Kd.C_drewN ?_ _) | (with_reducible refine Kd.C_drew ?_))); (case side2 => exact (Kd.R_reads' HO174.out).2.1); rintro e w22 ⟨rfl, hb⟩; refine ⟨_, rfl, ?_⟩; have n0_ := Aside0.mk (Kd.R_below (by (with_reducible repeat (first | apply Kd.R_alloc | apply Kd.R_drewN | apply Kd.R_drew)); exact HO174.out) hb); have n1_ := Aside0.mk (below_step (by repeat (first | (with_reducible first | exact HB.out | apply below_alloc | apply pw_below_drewN | apply below_drew1) | exact HB.out)) hb); clear HO174; clear HB; have HO174 := n0_; have HB := n1_; clear n0_ n1_; (try clear hb); (try clear hb2); (try clear hk); (try clear hi)))
  go_ret2
  exact ⟨by first | rfl | (simp [errW_none, errW_some] <;> rfl) | (simp [*, errW_none, errW_some] <;> rfl), by repeat (first | (with_reducible first | exact HB.out | apply below_alloc | apply pw_below_drewN | apply below_drew1) | exact HB.out)⟩

/-! ### spec_DrawQuietRows: function 38 -/
section
theorem lit_C_DrawQuietRows (W : World) (t : Nat) (l : List Int) (hl : l.length ≤ 1000) : Kd.C (Kd.int .i64) (W.alloc (.cells (l.map (Value.int .i64)).toArray t)) (some ⟨W.heap.size, 0, none⟩) l.length l :=
  Kd.C_of_reads (d := (0 : Int)) (h1 := fun _ => rfl) ⟨rfl, by omega, fun _ => ⟨_, rfl, fun j hj => by
    have h := blk_cell (blk_new W (.cells (l.map (Value.int .i64)).toArray t)) j
    rw [List.getElem?_toArray, List.getElem?_map, List.getElem?_eq_getElem hj] at h
    have e : l.getD j 0 = l[j] := by rw [List.getD_eq_getElem?_getD, List.getElem?_eq_getElem hj]; rfl
    rw [e, Addr.add_lit, Nat.zero_add]
    exact h⟩⟩
def spec_DrawQuietRows.f (l0 : List Int) : Option (Int × Bool × Int × Int) := (spec_l1Cur_wide.f l0 0 0).bind fun a => (spec_l1Cur_one.f l0 a.2.2.1 a.2.2.2 3).bind fun b => (spec_l1Cur_among.f l0 b.2.1 b.2.2 [0, 1, 10, 40, 200, 201, (-1)]).bind fun c => some (a.1, !b.1, a.2.1, c.1)
set_option maxHeartbeats 8000000 in
set_option maxRecDepth 100000 in
theorem spec_DrawQuietRows.calls (A0 : Option Addr) (c0 : Nat) (l0 : List Int) (r0 : Int) (r1 : Bool) (r2 : Int) (r3 : Int) (w : World) (hr0 : Kd.C (Kd.int .u8) w A0 l0.length l0) (hc0 : l0.length ≤ c0) (h : spec_DrawQuietRows.f l0 = some (r0, r1, r2, r3)) :
  Calls Try.prog 38 #[.slice A0 l0.length c0] w fun e w' => e = .returned (.tuple #[.int .i64 r0, .bool r1, .int .i64 r2, .int .i64 r3]) ∧ Below w.heap.size w w' := by
 obtain ⟨⟨x0, x1, p0, s0⟩, e0, h⟩ := Option.bind_eq_some_iff.mp h
 obtain ⟨⟨x2, p1, s1⟩, e1, h⟩ := Option.bind_eq_some_iff.mp h
 obtain ⟨⟨x3, p2, s2⟩, e2, h⟩ := Option.bind_eq_some_iff.mp h
 simp only [Option.some.injEq, Prod.mk.injEq] at h
 obtain ⟨rfl, rfl, rfl, rfl⟩ := h
 have E0 := Aside0.mk e0
 have E1 := Aside0.mk e1
 have E2 := Aside0.mk e2
 have HC := Aside0.mk hr0
 clear hr0 e0 e1 e2
 go_enter Try.func38, Try.ntmps38
 go_wp2_with (first
   | (go_at_call 68
      have _ := I1
      refine (spec_l1Cur_among.calls w.heap.size l0 p1 s1 _ _ ([0, 1, 10, 40, 200, 201, (-1)] : List Int) x3 p2 s2 w _ ?hs ?hb ?hr (by decide) ?hf E2.out).mono ?_
      case hs => exact (I1.alloc _)
      case hb => exact (below_alloc B1 _)
      case hr => first | exact lit_C_DrawQuietRows _ _ [0, 1, 10, 40, 200, 201, (-1)] (by decide) | simpa using lit_C_DrawQuietRows _ 3 [0, 1, 10, 40, 200, 201, (-1)] (by decide)
      case hf => intro ad e0 _; obtain rfl := Option.some.inj e0; exact Nat.ne_of_gt I1.lt
      rintro e w2 ⟨rfl, I2, B2, _⟩)
   | (go_at_call 47
      have _ := I0
      refine (spec_l1Cur_one.calls w.heap.size l0 p0 s0 3 x2 p1 s1 w _ ?hs ?hb E1.out).mono ?_
      case hs => exact I0
      case hb => exact B0
      rintro e w1 ⟨rfl, I1, B1, _⟩)
   | (go_at_call 73
      refine (spec_l1Cur_wide.calls w.heap.size l0 0 0 x0 x1 p0 s0 w _ ?hs ?hb E0.out).mono ?_
      case hs => exact (IsS59.new w w A0 c0 l0 0 0 (Below.refl _ _) HC.out)
      case hb => exact (below_alloc (Below.refl _ _) _)
      rintro e w0 ⟨rfl, I0, B0, _⟩))
 refine bodyPost_ret (results_list (rs := [.tmp 2, .tmp 3, .tmp 4, .tmp 5]) rfl (by simp) (.tmp (.tmp (.tmp (.tmp .nil))))) rfl ?_
 exact ⟨rfl, B2⟩
end

/-! ### impl_QuietRows: function 39 -/
section
open Go.Proofs.Ytgnjndkbccakgaa.Bit Go.Proofs.Ytgnjndkbccakgaa.Gra Go.Proofs.Ytgnjndkbccakgaa.Row Go.Proofs.Ytgnjndkbccakgaa.Lin
/-- Columns, a first row and a bound of which quiet rows are told. -/
def qrOk (c first most : Int) : Bool := (decide (1 ≤ c ∧ c ≤ 8) && decide (0 ≤ first ∧ first ≤ ((2 ^ c.toNat - 1 : Nat) : Int))) && (decide (first ≠ 0) && decide (0 ≤ most ∧ most ≤ 200))
/-- The quiet rows below a bound. -/
def qrs (c : Nat) (own : Bool) (f : Nat) : Nat → List Nat
  | 0 => []
  | k + 1 => if 1 ≤ k ∧ (cr c own 0 f k).2 = 0 then qrs c own f k ++ [k] else qrs c own f k
theorem qrs_len (c : Nat) (own : Bool) (f : Nat) : ∀ k, (qrs c own f k).length ≤ k
  | 0 => Nat.le_refl _
  | k + 1 => by
    have := qrs_len c own f k
    unfold qrs
    split
    · rw [List.length_append, List.length_singleton]; omega
    · omega
def impl_QuietRows.f (a0 : Int) (a1 : Bool) (a2 : Int) (a3 : Int) : Option (List Int × Bool) := some (if qrOk a0 a2 a3 = true then (zs (qrs a0.toNat a1 a2.toNat (a3.toNat + 1)), true) else ([], false))
theorem qr_in (a b c : Int) (w : World) : Calls Try.prog 57 #[.int .i64 a, .int .i64 b, .int .i64 c] w fun e w' => e = .returned (.bool (decide (b ≤ a ∧ a ≤ c))) ∧ Drawn0 w w' := by
  refine impl_in.calls a b c _ w ?_
  unfold impl_in.f
  split
  · rename_i h; simp [h]
  · rename_i h; simp [h]
theorem qr_info : (Try.prog.info? 3).map (fun i => (i.zero, i.size, i.bytes)) = some (some (.int .i64 0), 1, 8) := by kernel_rfl
/-- What the rounds keep: the box of the bound, the box of the list, the list. -/
def QrInv (Bm Bo n0 nB : Nat) (w0 : World) (most : Int) (l : List Nat) (W : World) : Prop :=
  W.cell? ⟨Bm, 0, none⟩ = some (.int .i64 most) ∧ (∃ v, W.heap[Bo]? = some (.cells #[v] 26 (0, 0)) ∧ Kd.R (Kd.int .i64) 3 W n0 (fun _ => True) v (zs l)) ∧ Below nB w0 W
theorem QrInv.drew {Bm Bo n0 nB : Nat} {w0 : World} {most : Int} {l : List Nat} {W : World} (h : QrInv Bm Bo n0 nB w0 most l W) (q : Nat) : QrInv Bm Bo n0 nB w0 most l (W.drewN q) := by
  obtain ⟨h1, ⟨v, h2, h3⟩, h4⟩ := h
  exact ⟨h1, ⟨v, h2, Kd.R_drewN h3 q⟩, pw_below_drewN h4 q⟩
set_option maxRecDepth 100000 in
set_option maxHeartbeats 2000000 in
/-- The closure, at a row that is none to be told. -/
theorem qr_no (Bm Bo n0 nB : Nat) (w0 : World) (most : Int) (l : List Nat) (k b x : Nat) (hno : ¬ ((1 ≤ (k : Int) ∧ (k : Int) ≤ most) ∧ x = 0)) (W : World) (h : QrInv Bm Bo n0 nB w0 most l W) (r : Bool) (hr : decide ((k : Int) < most) = r) :
    Calls Try.prog 79 #[.int .i64 (k : Int), .int .i64 (b : Int), .int .i64 (x : Int), .pointer (some ⟨Bm, 0, none⟩), .pointer (some ⟨Bo, 0, none⟩)] W fun e w' => e = .returned (.bool r) ∧ QrInv Bm Bo n0 nB w0 most l w' := by
  have h1 := h.1
  have HI := Aside0.mk h
  have hin := qr_in (k : Int) 1 most
  have HR := Aside0.mk hr
  by_cases hi : 1 ≤ (k : Int) ∧ (k : Int) ≤ most
  · have hx : ((x : Int) == 0) = false := by rw [beq_eq_false_iff_ne]; exact fun e => hno ⟨hi, by omega⟩
    rw [decide_eq_true hi] at hin
    clear hno h hi hr
    go_enter Try.func79, Try.ntmps79
    go_wp2_with (go_at_call 57; refine (hin _).mono ?_; rintro e w' ⟨rfl, ⟨q, rfl⟩⟩)
    go_ret
    exact ⟨by rw [← HR.out]; rfl, HI.out.drew _⟩
  · rw [decide_eq_false hi] at hin
    clear hno h hi hr
    go_enter Try.func79, Try.ntmps79
    go_wp2_with (go_at_call 57; refine (hin _).mono ?_; rintro e w' ⟨rfl, ⟨q, rfl⟩⟩)
    go_ret
    exact ⟨by rw [← HR.out]; rfl, HI.out.drew _⟩
set_option maxRecDepth 100000 in
set_option maxHeartbeats 2000000 in
/-- The closure, at a quiet row. -/
theorem qr_yes (Bm Bo n0 nB : Nat) (hbm : Bm < n0) (hbo : n0 ≤ Bo) (hnB : nB ≤ Bo) (hn : nB ≤ n0) (w0 : World) (most : Int) (l : List Nat) (hl : l.length ≤ 1000) (k b : Nat) (hi : 1 ≤ (k : Int) ∧ (k : Int) ≤ most) (W : World) (h : QrInv Bm Bo n0 nB w0 most l W) (r : Bool) (hr : decide ((k : Int) < most) = r) :
    Calls Try.prog 79 #[.int .i64 (k : Int), .int .i64 (b : Int), .int .i64 ((0 : Nat) : Int), .pointer (some ⟨Bm, 0, none⟩), .pointer (some ⟨Bo, 0, none⟩)] W fun e w' => e = .returned (.bool r) ∧ QrInv Bm Bo n0 nB w0 most (l ++ [k]) w' := by
  obtain ⟨h1, ⟨v, h2, h3⟩, h4⟩ := h
  have hin := qr_in (k : Int) 1 most
  rw [decide_eq_true hi] at hin
  have HR := Aside0.mk hr
  have hlt : Bm < W.heap.size := World.block_lt_of_cell? W _ h1
  have HO := Aside0.mk h3
  have HB := Aside0.mk h4
  have HK := Aside0.mk h2
  have H1 := Aside0.mk h1
  have hsz : n0 ≤ W.heap.size := Nat.le_trans hbo (Nat.le_of_lt (blk_lt h2))
  have hc : W.cell? ⟨Bo, 0, none⟩ = some v := (blk_cell h2 0).trans rfl
  have hz : zs (l ++ [k]) = zs l ++ [(k : Int)] := by rw [zs_append]; rfl
  have HZ := Aside0.mk hz
  have hzl : (zs l).length ≤ 1000 := by rw [zs_length]; exact hl
  have hty : (26 : Nat) ≠ 3 := by decide
  clear h2 h3 h4 hr hz
  obtain ⟨A0, c0, rfl⟩ := Kd.R_slice HO.out
  go_enter Try.func79, Try.ntmps79
  go_wp2_with (first
    | (go_at_call 57; refine (hin _).mono ?_; rintro e w' ⟨rfl, ⟨q, rfl⟩⟩)
    | ((with_reducible refine gate_builtin (b := .append) (xs := #[.tmp 16, .tmp 18]) rfl ?_); at_builtin; refine Kd.R_append (Kd.int .i64) (w0 := W) n0 rfl (.tmp 16) (.tmp 18) 26 3 (.int .i64 0) 8 rfl Try.underlying26 qr_info rfl (by decide) (by omega) _ (zs l) ((k : Nat) : Int) [.int .i64 ((k : Nat) : Int)] (fun _ => True) (fun _ => False) rfl rfl ?aP (fun _ hk => hk.elim) ?aF ?aO ?aB ?aS ?aL ?_; (case aP => exact rfl); (case aF => exact (fun _ _ => trivial)); (case aO => exact Kd.R_drewN HO.out _); (case aB => exact pw_below_drewN (Below.refl _ _) _); (case aS => exact hsz); (case aL => omega); intro v1 w1 ho hb hg hat; clear hat; rw [← HZ.out] at ho; have HO2 := Aside0.mk ho; have HK2 := Aside0.mk (blk_grown (blk_drewN HK.out _) hg (Kd.R_ne HO.out HK.out (Ne.symm hty))); have H12 := Aside0.mk (hg.cell (a := ⟨Bm, 0, none⟩) H1.out (fun e => by have : n0 ≤ Bm := Kd.R_base HO.out _ e.symm; omega)); have HB2 := Aside0.mk (HB.out.trans (hb.mono hn)); obtain ⟨A1, c1, rfl⟩ := Kd.R_slice ho; have hcz := (blk_cell HK2.out 0).trans rfl; have hcf := blk_frozen HK2.out 0; have hbm2 : w1.cell? ⟨Bm, 0, none⟩ = some (.int .i64 most) := H12.out; clear ho hb hg))
  go_ret
  refine ⟨by rw [← HR.out]; rfl, (World.cell?_setCell_far w1 ⟨Bo, 0, none⟩ ⟨Bm, 0, none⟩ _ (by simp; omega)).trans H12.out, ⟨_, blk_put HK2.out 0 _ rfl, Kd.R_set HO2.out HK2.out (by decide) 0 _⟩, HB2.out.setCell (p := ⟨Bo, 0, none⟩) hnB _⟩
theorem qr_step (c : Nat) (own : Bool) (f : Nat) (most : Int) (Bm Bo n0 nB : Nat) (hbm : Bm < n0) (hbo : n0 ≤ Bo) (hnB : nB ≤ Bo) (hn : nB ≤ n0) (w0 : World) (k : Nat) (hk : (k : Int) ≤ most) (hk2 : k ≤ 1000) (r : Bool) (hr : decide ((k : Int) < most) = r) (W : World) (h : QrInv Bm Bo n0 nB w0 most (qrs c own f k) W) :
    Calls Try.prog 79 #[.int .i64 (k : Int), .int .i64 ((cr c own 0 f k).1 : Nat), .int .i64 ((cr c own 0 f k).2 : Nat), .pointer (some ⟨Bm, 0, none⟩), .pointer (some ⟨Bo, 0, none⟩)] W fun e w' => e = .returned (.bool r) ∧ QrInv Bm Bo n0 nB w0 most (qrs c own f (k + 1)) w' := by
  have hl := qrs_len c own f k
  have hs : qrs c own f (k + 1) = if 1 ≤ k ∧ (cr c own 0 f k).2 = 0 then qrs c own f k ++ [k] else qrs c own f k := rfl
  by_cases hc : 1 ≤ k ∧ (cr c own 0 f k).2 = 0
  · rw [hs, if_pos hc, hc.2]
    exact qr_yes Bm Bo n0 nB hbm hbo hnB hn w0 most _ (by omega) k _ ⟨by omega, hk⟩ W h r hr
  · rw [hs, if_neg hc]
    exact qr_no Bm Bo n0 nB w0 most _ k _ _ (fun e => hc ⟨by omega, e.2⟩) W h r hr
theorem qr_one {W : World} {b : Nat} {x : Int} (h : W.cell? ⟨b, 0, none⟩ = some (.int .i64 x)) : Kd.C (Kd.int .i64) W (some ⟨b, 0, none⟩) [x].length [x] :=
  Kd.C_of_reads (d := (0 : Int)) (h1 := fun _ => rfl) ⟨rfl, by simp, fun _ => ⟨_, rfl, fun j hj => by
    have : j = 0 := by simp at hj; omega
    subst this
    exact h⟩⟩
set_option maxRecDepth 100000 in
set_option maxHeartbeats 2000000 in
theorem impl_QuietRows.calls (a0 : Int) (a1 : Bool) (a2 : Int) (a3 : Int) (r1 : List Int) (r2 : Bool) (w : World) (h : impl_QuietRows.f a0 a1 a2 a3 = some (r1, r2)) :
  Calls Try.prog 39 #[.int .i64 a0, .bool a1, .int .i64 a2, .int .i64 a3] w fun e w' => ∃ v0_ : Value, e = .returned (.tuple #[v0_, .bool r2]) ∧ Kd.R (Kd.int .i64) 3 w' w.heap.size (fun _ => True) v0_ r1 ∧ Below w.heap.size w w' := by
 have hh := Option.some.inj h
 clear h
 have hwd := impl_isWide.calls a0 (some ⟨w.heap.size + 1, 0, none⟩) 1 [a2] _ ((w.alloc (.cells #[.int .i64 a3] 3)).alloc (.cells #[.int .i64 a2] 3)) (qr_one (by simp)) (by simp) rfl
 have hE : (decide (1 ≤ a0 ∧ a0 ≤ 8) && !([a2].any (noRow a0.toNat))) = (decide (1 ≤ a0 ∧ a0 ≤ 8) && decide (0 ≤ a2 ∧ a2 ≤ ((2 ^ a0.toNat - 1 : Nat) : Int))) := by
  unfold noRow
  simp [List.any]
 rw [hE] at hwd
 have hl1 : [a2].length = 1 := rfl
 rw [hl1] at hwd
 clear hE hl1
 have hin := qr_in a3 0 200
 cases hok : (decide (1 ≤ a0 ∧ a0 ≤ 8) && decide (0 ≤ a2 ∧ a2 ≤ ((2 ^ a0.toNat - 1 : Nat) : Int))) with
 | false =>
  rw [if_neg (by unfold qrOk; rw [hok, Bool.false_and]; decide)] at hh
  obtain ⟨rfl, rfl⟩ := Prod.mk.injEq .. ▸ hh
  rw [hok] at hwd
  clear hok hh
  go_enter Try.func39, Try.ntmps39
  go_wp2_with fail
  refine hwd.mono ?_
  rintro e w' ⟨rfl, hb⟩
  go_wp2
  go_ret2
  exact ⟨_, rfl, Kd.R_nil _ _ _ _ _, below_then (((Below.refl _ w).alloc (Nat.le_refl _) _).alloc (by simp) _) (by simp; omega) hb⟩
 | true =>
  rw [hok] at hwd
  by_cases h0 : a2 = 0
  ·
   have h01 : (a2 == 0) = true := by rw [beq_iff_eq]; exact h0
   rw [if_neg (by unfold qrOk; rw [hok, decide_eq_false (by simpa using h0), Bool.false_and, Bool.and_false]; decide)] at hh
   obtain ⟨rfl, rfl⟩ := Prod.mk.injEq .. ▸ hh
   clear hok hh h0
   go_enter Try.func39, Try.ntmps39
   go_wp2_with fail
   refine hwd.mono ?_
   rintro e w' ⟨rfl, hb⟩
   go_wp2
   go_ret2
   exact ⟨_, rfl, Kd.R_nil _ _ _ _ _, below_then (((Below.refl _ w).alloc (Nat.le_refl _) _).alloc (by simp) _) (by simp; omega) hb⟩
  ·
   have h01 : (a2 == 0) = false := by rw [beq_eq_false_iff_ne]; exact h0
   by_cases hm : 0 ≤ a3 ∧ a3 ≤ 200
   ·
    rw [if_pos (by unfold qrOk; rw [hok, decide_eq_true (show a2 ≠ 0 from h0), decide_eq_true hm]; rfl)] at hh
    obtain ⟨rfl, rfl⟩ := Prod.mk.injEq .. ▸ hh
    rw [decide_eq_true hm] at hin
    simp only [Bool.and_eq_true, decide_eq_true_eq] at hok
    obtain ⟨⟨hc1, hc2⟩, hf1, hf2⟩ := hok
    obtain ⟨c, rfl⟩ := Int.eq_ofNat_of_zero_le (show 0 ≤ a0 by omega)
    obtain ⟨f, rfl⟩ := Int.eq_ofNat_of_zero_le hf1
    obtain ⟨K, rfl⟩ := Int.eq_ofNat_of_zero_le hm.1
    rw [Int.toNat_natCast] at hf2
    simp only [Int.toNat_natCast]
    have hq := Nat.two_pow_pos c
    have hf : f < 2 ^ c := by omega
    have hrun := fun (Bo : Nat) (hBo : w.heap.size + 1 ≤ Bo) => rowsBehind_run c (by omega) a1 f hf 79 #[.pointer (some ⟨w.heap.size, 0, none⟩), .pointer (some ⟨Bo, 0, none⟩)] (enters_of Try.func79 (by kernel_rfl) rfl) K (by omega)
     (fun i W => QrInv w.heap.size Bo (w.heap.size + 1) w.heap.size w (K : Int) (qrs c a1 f i) W)
     (fun W => QrInv w.heap.size Bo (w.heap.size + 1) w.heap.size w (K : Int) (qrs c a1 f (K + 1)) W)
     (fun _ W q h => h.drew q)
     (fun i W hi h => qr_step c a1 f (K : Int) w.heap.size Bo (w.heap.size + 1) w.heap.size (by omega) hBo (by omega) (by omega) w i (by omega) (by omega) true (decide_eq_true (by omega)) W h)
     (fun W h => qr_step c a1 f (K : Int) w.heap.size Bo (w.heap.size + 1) w.heap.size (by omega) hBo (by omega) (by omega) w K (by omega) (by omega) false (decide_eq_false (by omega)) W h)
    have HQ : Aside0 (qrs c a1 f 0 = []) := ⟨rfl⟩
    clear hh hf hf2 hq hf1 h0 hc1 hc2
    generalize qrs c a1 f (K + 1) = res at *
    generalize hq0 : qrs c a1 f 0 = q0 at *
    clear hq0
    go_enter Try.func39, Try.ntmps39
    go_wp2_with fail
    refine hwd.mono ?_
    rintro e w' ⟨rfl, hb⟩
    have hcell : w'.cell? ⟨w.heap.size, 0, none⟩ = some (.int .i64 (K : Int)) := (hb.cell (p := ⟨w.heap.size, 0, none⟩) (by simp; omega)).trans (by simp)
    have hsz : w.heap.size < w'.heap.size := by have := hb.size; simp at this; omega
    have hB2 := Aside0.mk (below_then (((Below.refl _ w).alloc (Nat.le_refl _) (.cells #[.int .i64 (K : Int)] 3)).alloc (by simp) (.cells #[.int .i64 (f : Int)] 3)) (by simp; omega) hb)
    clear hb hwd
    go_wp2_with (first
      | (go_at_call 57; refine (hin _).mono ?_; rintro e w' ⟨rfl, ⟨q, rfl⟩⟩)
      | ((with_reducible refine gate_dst (N := 25) rfl ?_); refine Kd.R_lit (Kd.int .i64) _ 3 ?hg (N := 25) ?hd (xs := ([] : List Int)) (inner := []) (ok := fun _ => True) (okp := fun _ => True) ?hr ?hp (fun _ hk => hk) trivial (Below.refl _ _) (Nat.le_refl _) (by simp) ?_; (case hd => rfl); (case hg => rfl); (case hr => first | (go_simp; done) | (go_simp; rfl)); (case hp => exact (Reps.none _ _)); intro v1 w2 ho hb2 hg_ hnew_; clear hg_ hnew_; have HO := Aside0.mk ho; have HB3 := Aside0.mk (below_step (pw_below_drewN hB2.out _) hb2); have HC3 := Aside0.mk ((hb2.cell (p := ⟨w.heap.size, 0, none⟩) hsz).trans hcell); have HS3 := Aside0.mk (hb2.size); obtain ⟨A1, c1, rfl⟩ := Kd.R_slice ho; clear ho hb2 hcell))
    have hsz2 : w.heap.size + 1 ≤ w2.heap.size := Nat.le_trans hsz HS3.out
    refine (hrun w2.heap.size hsz2 _ ?_).mono ?_
    ·
     refine ⟨(((Below.refl w2.heap.size w2).alloc (Nat.le_refl _) _).cell (p := ⟨w.heap.size, 0, none⟩) (show w.heap.size < w2.heap.size by omega)).trans HC3.out, ⟨_, blk_new _ _, ?_⟩, below_alloc HB3.out _⟩
     rw [HQ.out]
     exact Kd.R_alloc (Kd.R_lower HO.out hsz) _
    rintro e w5 ⟨rfl, ⟨_, ⟨v, e2, e3⟩, e4⟩⟩
    have hcv : w5.cell? ⟨w2.heap.size, 0, none⟩ = some v := (blk_cell e2 0).trans rfl
    have HR := Aside0.mk (Kd.R_lower e3 (Nat.le_succ _))
    have HB5 := Aside0.mk e4
    obtain ⟨A5, c5, rfl⟩ := Kd.R_slice e3
    clear e2 e3 e4 hrun
    go_wp2
    go_ret2
    exact ⟨_, rfl, HR.out, HB5.out⟩
   ·
    rw [if_neg (by unfold qrOk; rw [decide_eq_false hm, Bool.and_false, Bool.and_false]; decide)] at hh
    obtain ⟨rfl, rfl⟩ := Prod.mk.injEq .. ▸ hh
    rw [decide_eq_false hm] at hin
    clear hok hh h0 hm
    go_enter Try.func39, Try.ntmps39
    go_wp2_with fail
    refine hwd.mono ?_
    rintro e w' ⟨rfl, hb⟩
    have hcell : w'.cell? ⟨w.heap.size, 0, none⟩ = some (.int .i64 a3) := (hb.cell (p := ⟨w.heap.size, 0, none⟩) (by simp; omega)).trans (by simp)
    have hB2 := Aside0.mk (below_then (((Below.refl _ w).alloc (Nat.le_refl _) (.cells #[.int .i64 a3] 3)).alloc (by simp) (.cells #[.int .i64 a2] 3)) (by simp; omega) hb)
    clear hb hwd
    go_wp2_with (go_at_call 57; refine (hin _).mono ?_; rintro e w' ⟨rfl, ⟨q, rfl⟩⟩)
    go_ret2
    exact ⟨_, rfl, Kd.R_nil _ _ _ _ _, pw_below_drewN hB2.out _⟩
end

/-! ### spec_QuietRows: function 40 -/
mutual
def spec_QuietRows.j0 : Nat → Int → Bool → Int → Int → Bool → Option (List Int × Bool)
  | 0, _, _, _, _, _ => none
  | k + 1, x0, x1, x2, x3, x24 => if x24 = true then (some (([] : List Int), false)) else (spec_QuietRows.l0 k x0 x1 x2 x3 ([] : List Int) 1)
def spec_QuietRows.l0 : Nat → Int → Bool → Int → Int → List Int → Int → Option (List Int × Bool)
  | 0, _, _, _, _, _, _ => none
  | k + 1, x0, x1, x2, x3, x10, x11 => if x11 ≤ x3 then ((spec_csBehind.f k x0 x1 x2 x11).bind fun t180 => (if t180 = 0 then (if x10.length < 17592186044416 then (spec_QuietRows.l0 k x0 x1 x2 x3 (x10 ++ [x11]) (wrap64 (x11 + 1))) else (none)) else (spec_QuietRows.l0 k x0 x1 x2 x3 x10 (wrap64 (x11 + 1))))) else (some (x10, true))
end
def spec_QuietRows.f (k : Nat) (a0 : Int) (a1 : Bool) (a2 : Int) (a3 : Int) : Option (List Int × Bool) := (spec_csWide.f a0 a2).bind fun t178 => (if t178 = true then (if a2 = 0 then (spec_QuietRows.j0 k a0 a1 a2 a3 true) else ((spec_l1In.f a3 0 200).bind fun t179 => (spec_QuietRows.j0 k a0 a1 a2 a3 (!t179)))) else (spec_QuietRows.j0 k a0 a1 a2 a3 true))
theorem spec_QuietRows.mono_l : ∀ k, (∀ y0 y1 y2 y3 y4, LeO (spec_QuietRows.j0 k y0 y1 y2 y3 y4) (spec_QuietRows.j0 (k + 1) y0 y1 y2 y3 y4)) ∧ (∀ y0 y1 y2 y3 y4 y5, LeO (spec_QuietRows.l0 k y0 y1 y2 y3 y4 y5) (spec_QuietRows.l0 (k + 1) y0 y1 y2 y3 y4 y5))
  | 0 => ⟨fun _ _ _ _ _ r h => by simp [spec_QuietRows.j0] at h, fun _ _ _ _ _ _ r h => by simp [spec_QuietRows.l0] at h⟩
  | k + 1 => by
    obtain ⟨ih0, ih1⟩ := spec_QuietRows.mono_l k
    refine ⟨?_, ?_⟩
    · intro y0 y1 y2 y3 y4
      unfold spec_QuietRows.j0
      repeat' first
      | (with_reducible exact ih0 _ _ _ _ _)
      | (with_reducible exact ih1 _ _ _ _ _ _)
      | (with_reducible exact spec_csBehind.mono _ _ _ _ _)
      | (with_reducible exact LeO.refl _)
      | (with_reducible exact LeO.none _)
      | (with_reducible refine LeO.ite ?_ ?_)
      | (with_reducible refine LeO.bind ?_ (fun _ => ?_))
      | exact ih0 _ _ _ _ _
      | exact ih1 _ _ _ _ _ _
      | exact spec_csBehind.mono _ _ _ _ _
      | exact LeO.none _
      | refine LeO.ite ?_ ?_
      | refine LeO.bind ?_ (fun _ => ?_)
    · intro y0 y1 y2 y3 y4 y5
      unfold spec_QuietRows.l0
      repeat' first
      | (with_reducible exact ih0 _ _ _ _ _)
      | (with_reducible exact ih1 _ _ _ _ _ _)
      | (with_reducible exact spec_csBehind.mono _ _ _ _ _)
      | (with_reducible exact LeO.refl _)
      | (with_reducible exact LeO.none _)
      | (with_reducible refine LeO.ite ?_ ?_)
      | (with_reducible refine LeO.bind ?_ (fun _ => ?_))
      | exact ih0 _ _ _ _ _
      | exact ih1 _ _ _ _ _ _
      | exact spec_csBehind.mono _ _ _ _ _
      | exact LeO.none _
      | refine LeO.ite ?_ ?_
      | refine LeO.bind ?_ (fun _ => ?_)
theorem spec_QuietRows.mono : ∀ a0 a1 a2 a3 k, LeO (spec_QuietRows.f k a0 a1 a2 a3) (spec_QuietRows.f (k + 1) a0 a1 a2 a3) := by
  intro a0 a1 a2 a3 k
  obtain ⟨ih0, ih1⟩ := spec_QuietRows.mono_l k
  unfold spec_QuietRows.f
  repeat' first
      | (with_reducible exact ih0 _ _ _ _ _)
      | (with_reducible exact ih1 _ _ _ _ _ _)
      | (with_reducible exact spec_csBehind.mono _ _ _ _ _)
      | (with_reducible exact LeO.refl _)
      | (with_reducible exact LeO.none _)
      | (with_reducible refine LeO.ite ?_ ?_)
      | (with_reducible refine LeO.bind ?_ (fun _ => ?_))
      | exact ih0 _ _ _ _ _
      | exact ih1 _ _ _ _ _ _
      | exact spec_csBehind.mono _ _ _ _ _
      | exact LeO.none _
      | refine LeO.ite ?_ ?_
      | refine LeO.bind ?_ (fun _ => ?_)
set_option maxHeartbeats 8000000 in
set_option maxRecDepth 100000 in
theorem spec_QuietRows.calls (k : Nat) (a0 : Int) (a1 : Bool) (a2 : Int) (a3 : Int) (r1 : List Int) (r2 : Bool) (w : World) (h : spec_QuietRows.f k a0 a1 a2 a3 = some (r1, r2)) :
  Calls Try.prog 40 #[.int .i64 a0, .bool a1, .int .i64 a2, .int .i64 a3] w fun e w' => ∃ v0_ : Value, e = .returned (.tuple #[v0_, .bool r2]) ∧ Kd.R (Kd.int .i64) 3 w' w.heap.size (fun _ => True) v0_ r1 ∧ Below w.heap.size w w' := by
 have HB := Aside0.mk (Below.refl w.heap.size w)
 have H : ((spec_csWide.f a0 a2).bind fun t178 => (if t178 = true then (if a2 = 0 then (spec_QuietRows.j0 k a0 a1 a2 a3 true) else ((spec_l1In.f a3 0 200).bind fun t179 => (spec_QuietRows.j0 k a0 a1 a2 a3 (!t179)))) else (spec_QuietRows.j0 k a0 a1 a2 a3 true))) = some (r1, r2) := h
 clear h
 have HC5 := Aside0.mk H
 clear H
 go_enter Try.func40, Try.ntmps40
 go_upto_region 1 with (fail)
 go_cut [24] (fun v24 wc => ∃ (kq : Nat) (x24_4 : Bool), v24 = .bool x24_4 ∧ Aside0 (spec_QuietRows.j0 kq a0 a1 a2 a3 x24_4 = some (r1, r2)) ∧ Aside0 (kq ≤ k) ∧ Aside0 (Below w.heap.size w wc))
 case first =>
  have H := HC5.out
  clear HC5
  replace H := Option.bind_eq_some_iff.mp H
  obtain ⟨t178, A60, H⟩ := H
  replace H : (if t178 = true then (if a2 = 0 then (spec_QuietRows.j0 k a0 a1 a2 a3 true) else ((spec_l1In.f a3 0 200).bind fun t179 => (spec_QuietRows.j0 k a0 a1 a2 a3 (!t179)))) else (spec_QuietRows.j0 k a0 a1 a2 a3 true)) = some (r1, r2) := H
  have A6 := Aside0.mk A60
  clear A60
  by_cases c7 : t178 = true
  ·
   subst c7
   have H1 : (if a2 = 0 then (spec_QuietRows.j0 k a0 a1 a2 a3 true) else ((spec_l1In.f a3 0 200).bind fun t179 => (spec_QuietRows.j0 k a0 a1 a2 a3 (!t179)))) = some (r1, r2) := by rw [if_pos rfl] at H; exact H
   clear H
   have H := H1
   clear H1
   by_cases c8 : a2 = 0
   ·
    rw [if_pos c8] at H
    have c8b0 : (a2 == 0) = true := beq_iff_eq.mpr c8
    have c8b1 : (a2 != 0) = false := bne_eq_false_iff_eq.mpr c8
    clear c8
    (first | rw [c8b0] | (simp only [i64_w, i32_w]; rw [c8b0]) | skip)
    have H' := Aside0.mk H
    clear H
    go_wp2_with (first | ((with_reducible refine gate_callee (f := 69) rfl ?_); refine goesL_ (some 14) rfl rfl Try.func69 (by kernel_rfl) rfl #[.int .i64 a0, .int .i64 a2] rfl (by (try simp only [List.map_toArray, List.map_cons, List.map_nil]); first | done | rfl | (simp only [List.length_drop, List.length_take]; rfl)) ?_; (with_reducible refine (spec_csWide.calls a0 a2 true _ A6.out).mono ?_); rintro e w' ⟨rfl, ⟨nd, rfl⟩⟩; refine ⟨_, rfl, ?_⟩))
    go_meet
    case rel => exact ⟨_, (true), (by first | rfl | (simp; done) | (simp [*]; done)), H', ⟨by first | omega | exact Nat.le_refl _⟩, ⟨by repeat (first | (with_reducible first | exact HB.out | apply below_alloc | apply pw_below_drewN | apply below_drew1) | exact HB.out)⟩⟩
   ·
    rw [if_neg c8] at H
    have c8b0 : (a2 == 0) = false := beq_eq_false_iff_ne.mpr c8
    have c8b1 : (a2 != 0) = true := bne_iff_ne.mpr c8
    (first | rw [c8b0] | (simp only [i64_w, i32_w]; rw [c8b0]) | skip)
    replace H := Option.bind_eq_some_iff.mp H
    obtain ⟨t179, A90, H⟩ := H
    replace H : (spec_QuietRows.j0 k a0 a1 a2 a3 (!t179)) = some (r1, r2) := H
    have A9 := Aside0.mk A90
    clear A90
    have H' := Aside0.mk H
    clear H
    go_wp2_with (first | ((with_reducible refine gate_callee (f := 69) rfl ?_); refine goesL_ (some 14) rfl rfl Try.func69 (by kernel_rfl) rfl #[.int .i64 a0, .int .i64 a2] rfl (by (try simp only [List.map_toArray, List.map_cons, List.map_nil]); first | done | rfl | (simp only [List.length_drop, List.length_take]; rfl)) ?_; (with_reducible refine (spec_csWide.calls a0 a2 true _ A6.out).mono ?_); rintro e w' ⟨rfl, ⟨nd, rfl⟩⟩; refine ⟨_, rfl, ?_⟩) | (go_at_call 70; (with_reducible refine (spec_l1In.calls a3 0 200 t179 _ A9.out).mono ?_); rintro e w' ⟨rfl, ⟨nd, rfl⟩⟩))
    go_meet
    case rel => exact ⟨_, (!t179), (by first | rfl | (simp; done) | (simp [*]; done)), H', ⟨by first | omega | exact Nat.le_refl _⟩, ⟨by repeat (first | (with_reducible first | exact HB.out | apply below_alloc | apply pw_below_drewN | apply below_drew1) | exact HB.out)⟩⟩
  ·
   replace c7 := Bool.eq_false_iff.mpr c7
   subst c7
   have H1 : (spec_QuietRows.j0 k a0 a1 a2 a3 true) = some (r1, r2) := by rw [if_neg (show ¬ (false = true) by decide)] at H; exact H
   clear H
   have H := H1
   clear H1
   have H' := Aside0.mk H
   clear H
   go_wp2_with (first | ((with_reducible refine gate_callee (f := 69) rfl ?_); refine goesL_ (some 14) rfl rfl Try.func69 (by kernel_rfl) rfl #[.int .i64 a0, .int .i64 a2] rfl (by (try simp only [List.map_toArray, List.map_cons, List.map_nil]); first | done | rfl | (simp only [List.length_drop, List.length_take]; rfl)) ?_; (with_reducible refine (spec_csWide.calls a0 a2 false _ A6.out).mono ?_); rintro e w' ⟨rfl, ⟨nd, rfl⟩⟩; refine ⟨_, rfl, ?_⟩))
   go_meet
   case rel => exact ⟨_, (true), (by first | rfl | (simp; done) | (simp [*]; done)), H', ⟨by first | omega | exact Nat.le_refl _⟩, ⟨by repeat (first | (with_reducible first | exact HB.out | apply below_alloc | apply pw_below_drewN | apply below_drew1) | exact HB.out)⟩⟩
 case rest =>
  clear HC5
  try clear p2
  try clear c4
  try clear c6
  try clear c7
  try clear c8
  try clear c8b0
  try clear c8b1
  obtain ⟨kq, x24_4, rfl, HA, HJ4, HB⟩ := hcut
  cases kq with
  | zero => exact absurd HA.out (by simp [spec_QuietRows.j0])
  | succ kj4 =>
   have H := HA.out
   clear HA
   simp only [spec_QuietRows.j0] at H
   by_cases c10 : x24_4 = true
   ·
    subst c10
    have H1 : (some (([] : List Int), false)) = some (r1, r2) := by rw [if_pos rfl] at H; exact H
    clear H
    have H := H1
    clear H1
    simp only [Option.some.injEq, Prod.mk.injEq] at H
    obtain ⟨rfl, rfl⟩ := H
    go_wp2
    go_ret2
    exact ⟨_, by first | rfl | (simp [errW_none, errW_some] <;> rfl) | (simp [*, errW_none, errW_some] <;> rfl), by first | exact Kd.R_nil _ _ _ _ _ | exact Kd.N_nil _ _ _ _ _ | exact Kd.V_nil _ _ _ _ _ | exact Kd.Q_nil _ _ _ _ _ | exact Kd.S_nil _ _ _ _ _, by repeat (first | (with_reducible first | exact HB.out | apply below_alloc | apply pw_below_drewN | apply below_drew1) | exact HB.out)⟩
   ·
    replace c10 := Bool.eq_false_iff.mpr c10
    subst c10
    have H1 : (spec_QuietRows.l0 kj4 a0 a1 a2 a3 ([] : List Int) 1) = some (r1, r2) := by rw [if_neg (show ¬ (false = true) by decide)] at H; exact H
    clear H
    have H := H1
    clear H1
    have H' := Aside0.mk H
    clear H
    go_wp2
    go_loopg [10, 11] kj4 (fun kq v10 v11 w' => ∃ (x10_2 : List Int) (x11_2 : Int), v11 = .int .i64 x11_2 ∧ Aside0 (spec_QuietRows.l0 kq a0 a1 a2 a3 x10_2 x11_2 = some (r1, r2)) ∧ Aside0 (kq ≤ kj4) ∧ Aside0 (Kd.R (Kd.int .i64) 3 w' w.heap.size (fun _ => True) v10 x10_2) ∧ Aside0 (Below w.heap.size w w'))
    case atStart => exact ⟨(([] : List Int)), (1), (by first | rfl | (simp; done) | (simp [*]; done)), H', ⟨Nat.le_refl _⟩, ⟨by first | exact Kd.R_nil _ _ _ _ _ | exact Kd.N_nil _ _ _ _ _ | exact Kd.V_nil _ _ _ _ _ | exact Kd.Q_nil _ _ _ _ _ | exact Kd.S_nil _ _ _ _ _⟩, ⟨by repeat (first | (with_reducible first | exact HB.out | apply below_alloc | apply pw_below_drewN | apply below_drew1) | exact HB.out)⟩⟩
    case round =>
     clear H'
     try clear c1
     try clear p2
     try clear c4
     try clear c6
     try clear c7
     try clear c8
     try clear c8b0
     try clear c8b1
     try clear c10
     try clear p2
     obtain ⟨x10_2, x11_2, rfl, HA, HK2, HO_10, HB⟩ := hrel
     cases gk with
     | zero => exact absurd HA.out (by simp [spec_QuietRows.l0])
     | succ k2 =>
      have H := HA.out
      clear HA
      simp only [spec_QuietRows.l0] at H
      by_cases c11 : x11_2 ≤ a3
      ·
       rw [if_pos c11] at H
       have c11b0 : decide (x11_2 ≤ a3) = true := decide_eq_true c11
       clear c11
       replace H := Option.bind_eq_some_iff.mp H
       obtain ⟨t180, A120, H⟩ := H
       replace H : (if t180 = 0 then (if x10_2.length < 17592186044416 then (spec_QuietRows.l0 k2 a0 a1 a2 a3 (x10_2 ++ [x11_2]) (wrap64 (x11_2 + 1))) else (none)) else (spec_QuietRows.l0 k2 a0 a1 a2 a3 x10_2 (wrap64 (x11_2 + 1)))) = some (r1, r2) := H
       have A12 := Aside0.mk A120
       clear A120
       by_cases c13 : t180 = 0
       ·
        rw [if_pos c13] at H
        have c13b0 : (t180 == 0) = true := beq_iff_eq.mpr c13
        have c13b1 : (t180 != 0) = false := bne_eq_false_iff_eq.mpr c13
        clear c13
        by_cases c14 : x10_2.length < 17592186044416
        ·
         rw [if_pos c14] at H
         have LMc14 := Aside0.mk c14
         clear c14
         obtain ⟨y181, hy181⟩ : ∃ y_ : List Int, y_ = (x10_2 ++ [x11_2]) := ⟨_, rfl⟩
         replace H : (spec_QuietRows.l0 k2 a0 a1 a2 a3 y181 (wrap64 (x11_2 + 1))) = some (r1, r2) := by first | (rw [hy181]; with_reducible exact H) | (have H2_ := (Option.bind_some _ _).symm.trans H; rw [hy181]; with_reducible exact H2_) | (have H2_ := (Option.bind_some _ _).symm.trans H; with_reducible exact H2_) | with_reducible exact H | (rw [hy181]; exact H) | exact H
         have Ny181 := Aside0.mk hy181
         clear hy181
         have H' := Aside0.mk H
         clear H
         go_wp2_with (first | ((with_reducible refine gate_callee (f := 80) rfl ?_); refine goesL_ (some 34) rfl rfl Try.func80 (by kernel_rfl) rfl #[.int .i64 a0, .bool a1, .int .i64 a2, .int .i64 x11_2] rfl (by (try simp only [List.map_toArray, List.map_cons, List.map_nil]); first | done | rfl | (simp only [List.length_drop, List.length_take]; rfl)) ?_; (with_reducible refine (spec_csBehind.calls k2 a0 a1 a2 x11_2 t180 _ A12.out).mono ?_); rintro e w' ⟨rfl, ⟨nd, rfl⟩⟩; refine ⟨_, rfl, ?_⟩) | ((with_reducible refine gate_builtin (b := .append) (xs := #[.tmp 36, .tmp 38]) rfl ?_); at_builtin; refine Kd.R_append (Kd.int .i64) (w0 := w) w.heap.size rfl (.tmp 36) (.tmp 38) 26 3 (.int .i64 0) 8 rfl Try.underlying26 info3 rfl (by decide) (by omega) u10 x10_2 x11_2 [.int .i64 x11_2] (fun _ => True) (fun _ => False) rfl rfl ?aP (fun _ hk => hk.elim) ?aF ?aO ?aB ?aS ?aL ?_; (case aP => exact rfl); (case aB => exact (by repeat (first | (with_reducible first | exact HB.out | apply below_alloc | apply pw_below_drewN | apply below_drew1) | exact HB.out))); (case aF => exact (fun _ _ => trivial)); (case aO => exact (by (with_reducible repeat (first | apply Kd.R_alloc | apply Kd.R_drewN | apply Kd.R_drew)); exact HO_10.out)); (case aS => exact (below_size (by repeat (first | (with_reducible first | exact HB.out | apply below_alloc | apply pw_below_drewN | apply below_drew1) | exact HB.out)))); (case aL => have := LMc14.out; omega); intro v182 w15 ho hb hg hat; rw [← Ny181.out] at ho; have n0_ := Aside0.mk (hb); have n1_ := Aside0.mk (ho); clear HB; clear HO_10; have HB := n0_; have HO183 := n1_; clear n0_ n1_; clear ho hb hg hat))
         go_roundg k2
         case measure => have := HJ4.out; have := HK2.out; omega
         case rel => exact ⟨(y181), (wrap64 (x11_2 + 1)), (by first | rfl | (simp; done) | (simp [*]; done)), H', ⟨by have := HJ4.out; have := HK2.out; omega⟩, ⟨by (with_reducible repeat (first | apply Kd.R_alloc | apply Kd.R_drewN | apply Kd.R_drew)); exact HO183.out⟩, ⟨by repeat (first | (with_reducible first | exact HB.out | apply below_alloc | apply pw_below_drewN | apply below_drew1) | exact HB.out)⟩⟩
        ·
         rw [if_neg c14] at H
         exact absurd H (by simp)
       ·
        rw [if_neg c13] at H
        have c13b0 : (t180 == 0) = false := beq_eq_false_iff_ne.mpr c13
        have c13b1 : (t180 != 0) = true := bne_iff_ne.mpr c13
        have H' := Aside0.mk H
        clear H
        go_wp2_with (first | ((with_reducible refine gate_callee (f := 80) rfl ?_); refine goesL_ (some 34) rfl rfl Try.func80 (by kernel_rfl) rfl #[.int .i64 a0, .bool a1, .int .i64 a2, .int .i64 x11_2] rfl (by (try simp only [List.map_toArray, List.map_cons, List.map_nil]); first | done | rfl | (simp only [List.length_drop, List.length_take]; rfl)) ?_; (with_reducible refine (spec_csBehind.calls k2 a0 a1 a2 x11_2 t180 _ A12.out).mono ?_); rintro e w' ⟨rfl, ⟨nd, rfl⟩⟩; refine ⟨_, rfl, ?_⟩))
        go_roundg k2
        case measure => have := HJ4.out; have := HK2.out; omega
        case rel => exact ⟨(x10_2), (wrap64 (x11_2 + 1)), (by first | rfl | (simp; done) | (simp [*]; done)), H', ⟨by have := HJ4.out; have := HK2.out; omega⟩, ⟨by (with_reducible repeat (first | apply Kd.R_alloc | apply Kd.R_drewN | apply Kd.R_drew)); exact HO_10.out⟩, ⟨by repeat (first | (with_reducible first | exact HB.out | apply below_alloc | apply pw_below_drewN | apply below_drew1) | exact HB.out)⟩⟩
      ·
       rw [if_neg c11] at H
       have c11b0 : decide (x11_2 ≤ a3) = false := decide_eq_false c11
       clear c11
       simp only [Option.some.injEq, Prod.mk.injEq] at H
       obtain ⟨rfl, rfl⟩ := H
       go_wp2
       go_ret2
       exact ⟨_, by first | rfl | (simp [errW_none, errW_some] <;> rfl) | (simp [*, errW_none, errW_some] <;> rfl), by (with_reducible repeat (first | apply Kd.R_alloc | apply Kd.R_drewN | apply Kd.R_drew)); exact HO_10.out, by repeat (first | (with_reducible first | exact HB.out | apply below_alloc | apply pw_below_drewN | apply below_drew1) | exact HB.out)⟩

/-! ### spec_DrawRowBehind: function 41 -/
section
theorem lit_C_DrawRowBehind (W : World) (t : Nat) (l : List Int) (hl : l.length ≤ 1000) : Kd.C (Kd.int .i64) (W.alloc (.cells (l.map (Value.int .i64)).toArray t)) (some ⟨W.heap.size, 0, none⟩) l.length l :=
  Kd.C_of_reads (d := (0 : Int)) (h1 := fun _ => rfl) ⟨rfl, by omega, fun _ => ⟨_, rfl, fun j hj => by
    have h := blk_cell (blk_new W (.cells (l.map (Value.int .i64)).toArray t)) j
    rw [List.getElem?_toArray, List.getElem?_map, List.getElem?_eq_getElem hj] at h
    have e : l.getD j 0 = l[j] := by rw [List.getD_eq_getElem?_getD, List.getElem?_eq_getElem hj]; rfl
    rw [e, Addr.add_lit, Nat.zero_add]
    exact h⟩⟩
def spec_DrawRowBehind.f (l0 : List Int) : Option (Int × Bool × Int × Int) := (spec_l1Cur_wide.f l0 0 0).bind fun a => (spec_l1Cur_one.f l0 a.2.2.1 a.2.2.2 3).bind fun b => (spec_l1Cur_among.f l0 b.2.1 b.2.2 [0, 1, 2, 5, 30, 200, 201, (-1)]).bind fun c => some (a.1, !b.1, a.2.1, c.1)
set_option maxHeartbeats 8000000 in
set_option maxRecDepth 100000 in
theorem spec_DrawRowBehind.calls (A0 : Option Addr) (c0 : Nat) (l0 : List Int) (r0 : Int) (r1 : Bool) (r2 : Int) (r3 : Int) (w : World) (hr0 : Kd.C (Kd.int .u8) w A0 l0.length l0) (hc0 : l0.length ≤ c0) (h : spec_DrawRowBehind.f l0 = some (r0, r1, r2, r3)) :
  Calls Try.prog 41 #[.slice A0 l0.length c0] w fun e w' => e = .returned (.tuple #[.int .i64 r0, .bool r1, .int .i64 r2, .int .i64 r3]) ∧ Below w.heap.size w w' := by
 obtain ⟨⟨x0, x1, p0, s0⟩, e0, h⟩ := Option.bind_eq_some_iff.mp h
 obtain ⟨⟨x2, p1, s1⟩, e1, h⟩ := Option.bind_eq_some_iff.mp h
 obtain ⟨⟨x3, p2, s2⟩, e2, h⟩ := Option.bind_eq_some_iff.mp h
 simp only [Option.some.injEq, Prod.mk.injEq] at h
 obtain ⟨rfl, rfl, rfl, rfl⟩ := h
 have E0 := Aside0.mk e0
 have E1 := Aside0.mk e1
 have E2 := Aside0.mk e2
 have HC := Aside0.mk hr0
 clear hr0 e0 e1 e2
 go_enter Try.func41, Try.ntmps41
 go_wp2_with (first
   | (go_at_call 68
      have _ := I1
      refine (spec_l1Cur_among.calls w.heap.size l0 p1 s1 _ _ ([0, 1, 2, 5, 30, 200, 201, (-1)] : List Int) x3 p2 s2 w _ ?hs ?hb ?hr (by decide) ?hf E2.out).mono ?_
      case hs => exact (I1.alloc _)
      case hb => exact (below_alloc B1 _)
      case hr => first | exact lit_C_DrawRowBehind _ _ [0, 1, 2, 5, 30, 200, 201, (-1)] (by decide) | simpa using lit_C_DrawRowBehind _ 3 [0, 1, 2, 5, 30, 200, 201, (-1)] (by decide)
      case hf => intro ad e0 _; obtain rfl := Option.some.inj e0; exact Nat.ne_of_gt I1.lt
      rintro e w2 ⟨rfl, I2, B2, _⟩)
   | (go_at_call 47
      have _ := I0
      refine (spec_l1Cur_one.calls w.heap.size l0 p0 s0 3 x2 p1 s1 w _ ?hs ?hb E1.out).mono ?_
      case hs => exact I0
      case hb => exact B0
      rintro e w1 ⟨rfl, I1, B1, _⟩)
   | (go_at_call 73
      refine (spec_l1Cur_wide.calls w.heap.size l0 0 0 x0 x1 p0 s0 w _ ?hs ?hb E0.out).mono ?_
      case hs => exact (IsS59.new w w A0 c0 l0 0 0 (Below.refl _ _) HC.out)
      case hb => exact (below_alloc (Below.refl _ _) _)
      rintro e w0 ⟨rfl, I0, B0, _⟩))
 refine bodyPost_ret (results_list (rs := [.tmp 2, .tmp 3, .tmp 4, .tmp 5]) rfl (by simp) (.tmp (.tmp (.tmp (.tmp .nil))))) rfl ?_
 exact ⟨rfl, B2⟩
end

/-! ### spec_RowBehind: function 42 -/
def spec_RowBehind.f (k : Nat) (a0 : Int) (a1 : Bool) (a2 : Int) (a3 : Int) : Option (Int × Bool) := (spec_csWide.f a0 a2).bind fun t184 => (if t184 = true then ((spec_l1In.f a3 0 200).bind fun t185 => (if t185 = true then ((spec_csBehind.f k a0 a1 a2 a3).bind fun t186 => (some (t186, true))) else (some (0, false)))) else (some (0, false)))
theorem spec_RowBehind.mono : ∀ a0 a1 a2 a3 k, LeO (spec_RowBehind.f k a0 a1 a2 a3) (spec_RowBehind.f (k + 1) a0 a1 a2 a3) := by
  intro a0 a1 a2 a3 k
  unfold spec_RowBehind.f
  repeat' first
      | (with_reducible exact spec_csBehind.mono _ _ _ _ _)
      | (with_reducible exact LeO.refl _)
      | (with_reducible exact LeO.none _)
      | (with_reducible refine LeO.ite ?_ ?_)
      | (with_reducible refine LeO.bind ?_ (fun _ => ?_))
      | exact spec_csBehind.mono _ _ _ _ _
      | exact LeO.none _
      | refine LeO.ite ?_ ?_
      | refine LeO.bind ?_ (fun _ => ?_)
set_option maxHeartbeats 8000000 in
set_option maxRecDepth 100000 in
theorem spec_RowBehind.calls (k : Nat) (a0 : Int) (a1 : Bool) (a2 : Int) (a3 : Int) (r1 : Int) (r2 : Bool) (w : World) (h : spec_RowBehind.f k a0 a1 a2 a3 = some (r1, r2)) :
  Calls Try.prog 42 #[.int .i64 a0, .bool a1, .int .i64 a2, .int .i64 a3] w fun e w' => e = .returned (.tuple #[.int .i64 r1, .bool r2]) ∧ Drawn0 w w' := by
 have H : ((spec_csWide.f a0 a2).bind fun t184 => (if t184 = true then ((spec_l1In.f a3 0 200).bind fun t185 => (if t185 = true then ((spec_csBehind.f k a0 a1 a2 a3).bind fun t186 => (some (t186, true))) else (some (0, false)))) else (some (0, false)))) = some (r1, r2) := h
 clear h
 replace H := Option.bind_eq_some_iff.mp H
 obtain ⟨t184, A50, H⟩ := H
 replace H : (if t184 = true then ((spec_l1In.f a3 0 200).bind fun t185 => (if t185 = true then ((spec_csBehind.f k a0 a1 a2 a3).bind fun t186 => (some (t186, true))) else (some (0, false)))) else (some (0, false))) = some (r1, r2) := H
 have A5 := Aside0.mk A50
 clear A50
 by_cases c6 : t184 = true
 ·
  subst c6
  have H1 : ((spec_l1In.f a3 0 200).bind fun t185 => (if t185 = true then ((spec_csBehind.f k a0 a1 a2 a3).bind fun t186 => (some (t186, true))) else (some (0, false)))) = some (r1, r2) := by rw [if_pos rfl] at H; exact H
  clear H
  have H := H1
  clear H1
  replace H := Option.bind_eq_some_iff.mp H
  obtain ⟨t185, A70, H⟩ := H
  replace H : (if t185 = true then ((spec_csBehind.f k a0 a1 a2 a3).bind fun t186 => (some (t186, true))) else (some (0, false))) = some (r1, r2) := H
  have A7 := Aside0.mk A70
  clear A70
  by_cases c8 : t185 = true
  ·
   subst c8
   have H1 : ((spec_csBehind.f k a0 a1 a2 a3).bind fun t186 => (some (t186, true))) = some (r1, r2) := by rw [if_pos rfl] at H; exact H
   clear H
   have H := H1
   clear H1
   replace H := Option.bind_eq_some_iff.mp H
   obtain ⟨t186, A90, H⟩ := H
   replace H : (some (t186, true)) = some (r1, r2) := H
   have A9 := Aside0.mk A90
   clear A90
   simp only [Option.some.injEq, Prod.mk.injEq] at H
   obtain ⟨rfl, rfl⟩ := H
   go_enter Try.func42, Try.ntmps42
   go_wp2_with (first | ((with_reducible refine gate_callee (f := 69) rfl ?_); refine goesL_ (some 12) rfl rfl Try.func69 (by kernel_rfl) rfl #[.int .i64 a0, .int .i64 a2] rfl (by (try simp only [List.map_toArray, List.map_cons, List.map_nil]); first | done | rfl | (simp only [List.length_drop, List.length_take]; rfl)) ?_; (with_reducible refine (spec_csWide.calls a0 a2 true _ A5.out).mono ?_); rintro e w' ⟨rfl, ⟨nd, rfl⟩⟩; refine ⟨_, rfl, ?_⟩) | (go_at_call 70; (with_reducible refine (spec_l1In.calls a3 0 200 true _ A7.out).mono ?_); rintro e w' ⟨rfl, ⟨nd, rfl⟩⟩) | ((with_reducible refine gate_callee (f := 80) rfl ?_); refine goesL_ (some 23) rfl rfl Try.func80 (by kernel_rfl) rfl #[.int .i64 a0, .bool a1, .int .i64 a2, .int .i64 a3] rfl (by (try simp only [List.map_toArray, List.map_cons, List.map_nil]); first | done | rfl | (simp only [List.length_drop, List.length_take]; rfl)) ?_; (with_reducible refine (spec_csBehind.calls k a0 a1 a2 a3 t186 _ A9.out).mono ?_); rintro e w' ⟨rfl, ⟨nd, rfl⟩⟩; refine ⟨_, rfl, ?_⟩))
   go_ret2
   exact ⟨by first | rfl | (simp; done) | (simp [*]; done), by repeat (first | exact Drawn0.refl _ | apply Drawn0.step)⟩
  ·
   replace c8 := Bool.eq_false_iff.mpr c8
   subst c8
   have H1 : (some (0, false)) = some (r1, r2) := by rw [if_neg (show ¬ (false = true) by decide)] at H; exact H
   clear H
   have H := H1
   clear H1
   simp only [Option.some.injEq, Prod.mk.injEq] at H
   obtain ⟨rfl, rfl⟩ := H
   go_enter Try.func42, Try.ntmps42
   go_wp2_with (first | ((with_reducible refine gate_callee (f := 69) rfl ?_); refine goesL_ (some 12) rfl rfl Try.func69 (by kernel_rfl) rfl #[.int .i64 a0, .int .i64 a2] rfl (by (try simp only [List.map_toArray, List.map_cons, List.map_nil]); first | done | rfl | (simp only [List.length_drop, List.length_take]; rfl)) ?_; (with_reducible refine (spec_csWide.calls a0 a2 true _ A5.out).mono ?_); rintro e w' ⟨rfl, ⟨nd, rfl⟩⟩; refine ⟨_, rfl, ?_⟩) | (go_at_call 70; (with_reducible refine (spec_l1In.calls a3 0 200 false _ A7.out).mono ?_); rintro e w' ⟨rfl, ⟨nd, rfl⟩⟩))
   go_ret2
   exact ⟨by first | rfl | (simp; done) | (simp [*]; done), by repeat (first | exact Drawn0.refl _ | apply Drawn0.step)⟩
 ·
  replace c6 := Bool.eq_false_iff.mpr c6
  subst c6
  have H1 : (some (0, false)) = some (r1, r2) := by rw [if_neg (show ¬ (false = true) by decide)] at H; exact H
  clear H
  have H := H1
  clear H1
  simp only [Option.some.injEq, Prod.mk.injEq] at H
  obtain ⟨rfl, rfl⟩ := H
  go_enter Try.func42, Try.ntmps42
  go_wp2_with (first | ((with_reducible refine gate_callee (f := 69) rfl ?_); refine goesL_ (some 12) rfl rfl Try.func69 (by kernel_rfl) rfl #[.int .i64 a0, .int .i64 a2] rfl (by (try simp only [List.map_toArray, List.map_cons, List.map_nil]); first | done | rfl | (simp only [List.length_drop, List.length_take]; rfl)) ?_; (with_reducible refine (spec_csWide.calls a0 a2 false _ A5.out).mono ?_); rintro e w' ⟨rfl, ⟨nd, rfl⟩⟩; refine ⟨_, rfl, ?_⟩))
  go_ret2
  exact ⟨by first | rfl | (simp; done) | (simp [*]; done), by repeat (first | exact Drawn0.refl _ | apply Drawn0.step)⟩

/-! ### spec_DrawNullitiesByRows: function 43 -/
section
theorem lit_C_DrawNullitiesByRows (W : World) (t : Nat) (l : List Int) (hl : l.length ≤ 1000) : Kd.C (Kd.int .i64) (W.alloc (.cells (l.map (Value.int .i64)).toArray t)) (some ⟨W.heap.size, 0, none⟩) l.length l :=
  Kd.C_of_reads (d := (0 : Int)) (h1 := fun _ => rfl) ⟨rfl, by omega, fun _ => ⟨_, rfl, fun j hj => by
    have h := blk_cell (blk_new W (.cells (l.map (Value.int .i64)).toArray t)) j
    rw [List.getElem?_toArray, List.getElem?_map, List.getElem?_eq_getElem hj] at h
    have e : l.getD j 0 = l[j] := by rw [List.getD_eq_getElem?_getD, List.getElem?_eq_getElem hj]; rfl
    rw [e, Addr.add_lit, Nat.zero_add]
    exact h⟩⟩
def spec_DrawNullitiesByRows.f (l0 : List Int) : Option (Int × Bool × Int) := (spec_l1Cur_among.f l0 0 0 [1, 2, 3, 4, 5, 9, 0]).bind fun a => (spec_l1Cur_one.f l0 a.2.1 a.2.2 3).bind fun b => (spec_l1Cur_among.f l0 b.2.1 b.2.2 [0, 1, 5, 20, 201, (-1)]).bind fun c => some (a.1, !b.1, c.1)
set_option maxHeartbeats 8000000 in
set_option maxRecDepth 100000 in
theorem spec_DrawNullitiesByRows.calls (A0 : Option Addr) (c0 : Nat) (l0 : List Int) (r0 : Int) (r1 : Bool) (r2 : Int) (w : World) (hr0 : Kd.C (Kd.int .u8) w A0 l0.length l0) (hc0 : l0.length ≤ c0) (h : spec_DrawNullitiesByRows.f l0 = some (r0, r1, r2)) :
  Calls Try.prog 43 #[.slice A0 l0.length c0] w fun e w' => e = .returned (.tuple #[.int .i64 r0, .bool r1, .int .i64 r2]) ∧ Below w.heap.size w w' := by
 obtain ⟨⟨x0, p0, s0⟩, e0, h⟩ := Option.bind_eq_some_iff.mp h
 obtain ⟨⟨x1, p1, s1⟩, e1, h⟩ := Option.bind_eq_some_iff.mp h
 obtain ⟨⟨x2, p2, s2⟩, e2, h⟩ := Option.bind_eq_some_iff.mp h
 simp only [Option.some.injEq, Prod.mk.injEq] at h
 obtain ⟨rfl, rfl, rfl⟩ := h
 have E0 := Aside0.mk e0
 have E1 := Aside0.mk e1
 have E2 := Aside0.mk e2
 have HC := Aside0.mk hr0
 clear hr0 e0 e1 e2
 go_enter Try.func43, Try.ntmps43
 go_wp2_with (first
   | (go_at_call 68
      have _ := I1
      refine (spec_l1Cur_among.calls w.heap.size l0 p1 s1 _ _ ([0, 1, 5, 20, 201, (-1)] : List Int) x2 p2 s2 w _ ?hs ?hb ?hr (by decide) ?hf E2.out).mono ?_
      case hs => exact (I1.alloc _)
      case hb => exact (below_alloc B1 _)
      case hr => first | exact lit_C_DrawNullitiesByRows _ _ [0, 1, 5, 20, 201, (-1)] (by decide) | simpa using lit_C_DrawNullitiesByRows _ 3 [0, 1, 5, 20, 201, (-1)] (by decide)
      case hf => intro ad e0 _; obtain rfl := Option.some.inj e0; exact Nat.ne_of_gt I1.lt
      rintro e w2 ⟨rfl, I2, B2, _⟩)
   | (go_at_call 47
      have _ := I0
      refine (spec_l1Cur_one.calls w.heap.size l0 p0 s0 3 x1 p1 s1 w _ ?hs ?hb E1.out).mono ?_
      case hs => exact I0
      case hb => exact B0
      rintro e w1 ⟨rfl, I1, B1, _⟩)
   | (go_at_call 68
      refine (spec_l1Cur_among.calls w.heap.size l0 0 0 _ _ ([1, 2, 3, 4, 5, 9, 0] : List Int) x0 p0 s0 w _ ?hs ?hb ?hr (by decide) ?hf E0.out).mono ?_
      case hs => exact ((IsS59.new w w A0 c0 l0 0 0 (Below.refl _ _) HC.out).alloc _)
      case hb => exact (below_alloc (below_alloc (Below.refl _ _) _) _)
      case hr => first | exact lit_C_DrawNullitiesByRows _ _ [1, 2, 3, 4, 5, 9, 0] (by decide) | simpa using lit_C_DrawNullitiesByRows (w.alloc (.cells #[.slice A0 l0.length c0, .int .i64 0, .int .u64 0] 59)) 3 [1, 2, 3, 4, 5, 9, 0] (by decide)
      case hf => intro ad e0 _; obtain rfl := Option.some.inj e0; simp
      rintro e w0 ⟨rfl, I0, B0, _⟩))
 go_ret3
 exact ⟨rfl, B2⟩
end

end Go.Proofs.Ytgnjndkbccakgaa.PFnRowsTellNullities
