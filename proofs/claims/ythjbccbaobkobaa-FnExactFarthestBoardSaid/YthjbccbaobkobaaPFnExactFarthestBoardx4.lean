-- WRITTEN BY xprint.py, a program of this session, which runs the kit's print over functions with given contracts
import Derived.Test.YthjbccbaobkobaaPFnExactFarthestBoardx0
import Derived.Test.YthjbccbaobkobaaPFnExactFarthestBoardx1
import Derived.Test.YthjbccbaobkobaaPFnExactFarthestBoardx2
import Derived.Test.YthjbccbaobkobaaPFnExactFarthestBoardx3
namespace Go.Proofs.Ythjbccbaobkobaa.PFnExactFarthestBoard
open Go.RowKit Go.Proofs.YthjbccbaobkobaaW.PrintWords Go.Proofs.YthjbccbaobkobaaW.PrintLast Go.Proofs.YthjbccbaobkobaaW.PrintMore
attribute [local go_sem] max2_int min2_int max_two min_two max_three min_three max_four min_four   -- for this text's walks alone
set_option linter.unusedVariables false
set_option linter.unusedSimpArgs false

/-! ### spec_soLeast: function 39 -/
def spec_soLeast.l0 : Nat → Int → Int → List Int → Int → Int → Option (Int × Bool)
  | 0, _, _, _, _, _ => none
  | k + 1, x6, x8, x23, x24, x25 => if x25 < x24 then (if 0 ≤ x25 then (if x25 < (x23.length : Int) then ((spec_grCount.f k (Go.bits .xor .i64 x6 (rd x23 x25))).bind fun t198 => ((spec_grCount.f k x8).bind fun t199 => (if t198 < t199 then (spec_soLeast.l0 k x6 (Go.bits .xor .i64 x6 (rd x23 x25)) x23 x24 (wrap64 (x25 + 1))) else ((spec_grCount.f k (Go.bits .xor .i64 x6 (rd x23 x25))).bind fun t200 => ((spec_grCount.f k x8).bind fun t201 => (if t200 = t201 then (if (Go.bits .xor .i64 x6 (rd x23 x25)) < x8 then (spec_soLeast.l0 k x6 (Go.bits .xor .i64 x6 (rd x23 x25)) x23 x24 (wrap64 (x25 + 1))) else (spec_soLeast.l0 k x6 x8 x23 x24 (wrap64 (x25 + 1)))) else (spec_soLeast.l0 k x6 x8 x23 x24 (wrap64 (x25 + 1))))))))) else (none)) else (none)) else (some (x8, true))
def spec_soLeast.f (k : Nat) (l0_0 : List Int) (a0_1 : Bool) (a1 : Int) : Option (Int × Bool) := (spec_soSolve.f k l0_0 a0_1 a1).bind fun bt189 => (if bt189.2 = true then ((spec_soQuiet.f k l0_0 a0_1).bind fun t191 => ((spec_soSums.f k t191).bind fun t194 => (spec_soLeast.l0 k bt189.1 bt189.1 t194 (t194.length : Int) 0))) else (some (0, false)))
theorem spec_soLeast.mono_l : ∀ k, (∀ y0 y1 y2 y3 y4, LeO (spec_soLeast.l0 k y0 y1 y2 y3 y4) (spec_soLeast.l0 (k + 1) y0 y1 y2 y3 y4))
  | 0 => fun _ _ _ _ _ r h => by simp [spec_soLeast.l0] at h
  | k + 1 => by
    have ih0 := spec_soLeast.mono_l k
    · intro y0 y1 y2 y3 y4
      unfold spec_soLeast.l0
      repeat' first
      | (with_reducible exact ih0 _ _ _ _ _)
      | (with_reducible exact spec_grCount.mono _ _)
      | (with_reducible exact spec_soQuiet.mono _ _ _)
      | (with_reducible exact spec_soSolve.mono _ _ _ _)
      | (with_reducible exact spec_soSums.mono _ _)
      | (with_reducible exact LeO.refl _)
      | (with_reducible exact LeO.none _)
      | (with_reducible refine LeO.ite ?_ ?_)
      | (with_reducible refine LeO.bind ?_ (fun _ => ?_))
      | exact ih0 _ _ _ _ _
      | exact spec_grCount.mono _ _
      | exact spec_soQuiet.mono _ _ _
      | exact spec_soSolve.mono _ _ _ _
      | exact spec_soSums.mono _ _
      | exact LeO.none _
      | refine LeO.ite ?_ ?_
      | refine LeO.bind ?_ (fun _ => ?_)
theorem spec_soLeast.mono : ∀ a0 a1 a2 k, LeO (spec_soLeast.f k a0 a1 a2) (spec_soLeast.f (k + 1) a0 a1 a2) := by
  intro a0 a1 a2 k
  have ih0 := spec_soLeast.mono_l k
  unfold spec_soLeast.f
  repeat' first
      | (with_reducible exact ih0 _ _ _ _ _)
      | (with_reducible exact spec_grCount.mono _ _)
      | (with_reducible exact spec_soQuiet.mono _ _ _)
      | (with_reducible exact spec_soSolve.mono _ _ _ _)
      | (with_reducible exact spec_soSums.mono _ _)
      | (with_reducible exact LeO.refl _)
      | (with_reducible exact LeO.none _)
      | (with_reducible refine LeO.ite ?_ ?_)
      | (with_reducible refine LeO.bind ?_ (fun _ => ?_))
      | exact ih0 _ _ _ _ _
      | exact spec_grCount.mono _ _
      | exact spec_soQuiet.mono _ _ _
      | exact spec_soSolve.mono _ _ _ _
      | exact spec_soSums.mono _ _
      | exact LeO.none _
      | refine LeO.ite ?_ ?_
      | refine LeO.bind ?_ (fun _ => ?_)
set_option maxHeartbeats 8000000 in
set_option maxRecDepth 100000 in
theorem spec_soLeast.calls (k : Nat) (A0_0 : Option Addr) (c0_0 : Nat) (l0_0 : List Int) (a0_1 : Bool) (a1 : Int) (r1 : Int) (r2 : Bool) (w : World) (hr0_0 : Kd.C (Kd.int .i64) w A0_0 l0_0.length l0_0) (hc0_0 : l0_0.length ≤ c0_0) (h : spec_soLeast.f k l0_0 a0_1 a1 = some (r1, r2)) :
    Calls Try.prog 39 #[.agg #[.slice A0_0 l0_0.length c0_0, .bool a0_1], .int .i64 a1] w fun e w' => e = .returned (.tuple #[.int .i64 r1, .bool r2]) ∧ Below w.heap.size w w' := by
  have hu28 := Try.underlying28
  have HR0_0 := Aside0.mk hr0_0
  have HC0_0 := Aside0.mk hc0_0
  clear hr0_0 hc0_0
  have HB := Aside0.mk (Below.refl w.heap.size w)
  have H : ((spec_soSolve.f k l0_0 a0_1 a1).bind fun bt189 => (if bt189.2 = true then ((spec_soQuiet.f k l0_0 a0_1).bind fun t191 => ((spec_soSums.f k t191).bind fun t194 => (spec_soLeast.l0 k bt189.1 bt189.1 t194 (t194.length : Int) 0))) else (some (0, false)))) = some (r1, r2) := h
  clear h
  replace H := Option.bind_eq_some_iff.mp H
  obtain ⟨⟨t189, t190⟩, A30, H⟩ := H
  replace H : (if t190 = true then ((spec_soQuiet.f k l0_0 a0_1).bind fun t191 => ((spec_soSums.f k t191).bind fun t194 => (spec_soLeast.l0 k t189 t189 t194 (t194.length : Int) 0))) else (some (0, false))) = some (r1, r2) := H
  have A3 := Aside0.mk A30
  clear A30
  by_cases c4 : t190 = true
  · subst c4
    have H1 : ((spec_soQuiet.f k l0_0 a0_1).bind fun t191 => ((spec_soSums.f k t191).bind fun t194 => (spec_soLeast.l0 k t189 t189 t194 (t194.length : Int) 0))) = some (r1, r2) := by rw [if_pos rfl] at H; exact H
    clear H
    have H := H1
    clear H1
    replace H := Option.bind_eq_some_iff.mp H
    obtain ⟨t191, A50, H⟩ := H
    replace H : ((spec_soSums.f k t191).bind fun t194 => (spec_soLeast.l0 k t189 t189 t194 (t194.length : Int) 0)) = some (r1, r2) := H
    have A5 := Aside0.mk A50
    clear A50
    replace H := Option.bind_eq_some_iff.mp H
    obtain ⟨t194, A60, H⟩ := H
    replace H : (spec_soLeast.l0 k t189 t189 t194 (t194.length : Int) 0) = some (r1, r2) := H
    have A6 := Aside0.mk A60
    clear A60
    have H' := Aside0.mk H
    clear H
    go_enter Try.func39, Try.ntmps39
    go_wp2_with (first | ((with_reducible refine gate_dst (N := 2) rfl ?_); refine box_event ?hg (N := 2) ?hd (cs := #[.slice A0_0 l0_0.length c0_0, .bool a0_1]) (t := 28) ?hr ?_; (case hd => rfl); (case hg => rfl); (case hr => first | (go_simp; done) | (go_simp; rfl)); intro gb188 hg w7 hbox hb; have n0_ := Aside0.mk (below_step (by repeat (first | (with_reducible first | exact HB.out | apply below_alloc | apply pw_below_drewN | apply below_drew1) | exact HB.out)) hb); have n1_ := Aside0.mk (hbox); have n2_ := Aside0.mk ((by rw [hg]; exact (below_size (by repeat (first | (with_reducible first | exact HB.out | apply below_alloc | apply pw_below_drewN | apply below_drew1) | exact HB.out))) : w.heap.size ≤ gb188)); have n3_ := Aside0.mk ((by rw [hg]; exact (below_size (by repeat (first | (with_reducible first | exact HB.out | apply below_alloc | apply pw_below_drewN | apply below_drew1) | exact HB.out))) : w.heap.size ≤ gb188)); clear HB; have HB := n0_; have BK188 := n1_; have GW188 := n2_; have GE188 := n3_; clear n0_ n1_ n2_ n3_; clear hb hbox hg; have hcz8_0 : w7.cell? ⟨gb188, 0, none⟩ = some (.slice A0_0 l0_0.length c0_0) := (blk_cell BK188.out 0).trans rfl; have hcz8_1 : w7.cell? ⟨gb188, 1, none⟩ = some (.bool a0_1) := (blk_cell BK188.out 1).trans rfl; have hfz8_0 := blk_frozen BK188.out 0; have hfz8_1 := blk_frozen BK188.out 1) | ((with_reducible refine gate_callee (f := 54) rfl ?_); refine goesL_ (some 15) rfl rfl Try.func54 (by kernel_rfl) rfl #[.agg #[.slice A0_0 l0_0.length c0_0, .bool a0_1], .int .i64 a1] rfl (by (try simp only [List.map_toArray, List.map_cons, List.map_nil]); first | done | rfl | (simp only [List.length_drop, List.length_take]; rfl)) ?_; (with_reducible refine (spec_soSolve.calls k _ _ l0_0 a0_1 a1 t189 true _ ?side1 ?side2 A3.out).mono ?_); (case side1 => repeat (first | exact (Kd.C_below HR0_0.out HB.out) | (with_reducible refine Kd.C_alloc ?_ _) | (with_reducible refine Kd.C_drewN ?_ _) | (with_reducible refine Kd.C_drew ?_))); (case side2 => exact HC0_0.out); rintro e w9 ⟨rfl, hb⟩; refine ⟨_, rfl, ?_⟩; have n0_ := Aside0.mk (blk_below (g := gb188) (o := .cells #[.slice A0_0 l0_0.length c0_0, .bool a0_1] 28 (0, 0)) (by (with_reducible repeat (first | refine blk_drewN ?_ _ | refine blk_drew ?_ | refine blk_alloc ?_ _)); exact BK188.out) hb); have n1_ := Aside0.mk (below_step (by repeat (first | (with_reducible first | exact HB.out | apply below_alloc | apply pw_below_drewN | apply below_drew1 | refine below_set ?_ GE188.out) | exact HB.out)) hb); clear BK188; clear HB; have BK188 := n0_; have HB := n1_; clear n0_ n1_; (try clear hb); (try clear hb2); (try clear hk); (try clear hi); have hcz10_0 : w9.cell? ⟨gb188, 0, none⟩ = some (.slice A0_0 l0_0.length c0_0) := (blk_cell BK188.out 0).trans rfl; have hcz10_1 : w9.cell? ⟨gb188, 1, none⟩ = some (.bool a0_1) := (blk_cell BK188.out 1).trans rfl; have hfz10_0 := blk_frozen BK188.out 0; have hfz10_1 := blk_frozen BK188.out 1) | ((with_reducible refine gate_callee (f := 53) rfl ?_); refine goesL_ (some 22) rfl rfl Try.func53 (by kernel_rfl) rfl #[.agg #[.slice A0_0 l0_0.length c0_0, .bool a0_1]] rfl (by (try simp only [List.map_toArray, List.map_cons, List.map_nil]); first | done | rfl | (simp only [List.length_drop, List.length_take]; rfl)) ?_; (with_reducible refine (spec_soQuiet.calls k _ _ l0_0 a0_1 t191 _ ?side1 ?side2 A5.out).mono ?_); (case side1 => repeat (first | exact (Kd.C_below HR0_0.out HB.out) | (with_reducible refine Kd.C_alloc ?_ _) | (with_reducible refine Kd.C_drewN ?_ _) | (with_reducible refine Kd.C_drew ?_))); (case side2 => exact HC0_0.out); rintro e w11 ⟨v192, rfl, ho0, hb⟩; refine ⟨_, rfl, ?_⟩; have n0_ := Aside0.mk (Kd.R_lower ho0 (below_size (by repeat (first | (with_reducible first | exact HB.out | apply below_alloc | apply pw_below_drewN | apply below_drew1 | refine below_set ?_ GE188.out) | exact HB.out)))); have n1_ := Aside0.mk (blk_below (g := gb188) (o := .cells #[.slice A0_0 l0_0.length c0_0, .bool a0_1] 28 (0, 0)) (by (with_reducible repeat (first | refine blk_drewN ?_ _ | refine blk_drew ?_ | refine blk_alloc ?_ _)); exact BK188.out) hb); have n2_ := Aside0.mk (below_step (by repeat (first | (with_reducible first | exact HB.out | apply below_alloc | apply pw_below_drewN | apply below_drew1 | refine below_set ?_ GE188.out) | exact HB.out)) hb); clear BK188; clear HB; have HO193 := n0_; have BK188 := n1_; have HB := n2_; clear n0_ n1_ n2_; (try clear hb); (try clear hb2); (try clear hk); (try clear hi); (try clear ho0); obtain ⟨Ao12, co12, eo12⟩ := Kd.R_slice HO193.out; subst eo12) | ((with_reducible refine gate_callee (f := 55) rfl ?_); refine goesL_ (some 23) rfl rfl Try.func55 (by kernel_rfl) rfl #[.slice Ao12 t191.length co12] rfl (by (try simp only [List.map_toArray, List.map_cons, List.map_nil]); first | done | rfl | (simp only [List.length_drop, List.length_take]; rfl)) ?_; (with_reducible refine (spec_soSums.calls k _ _ t191 t194 _ ?side1 ?side2 A6.out).mono ?_); (case side1 => repeat (first | exact (Kd.R_reads' HO193.out).2.2 | (with_reducible refine Kd.C_alloc ?_ _) | (with_reducible refine Kd.C_drewN ?_ _) | (with_reducible refine Kd.C_drew ?_))); (case side2 => exact (Kd.R_reads' HO193.out).2.1); rintro e w13 ⟨v195, rfl, ho0, hb⟩; refine ⟨_, rfl, ?_⟩; have n0_ := Aside0.mk (Kd.R_elder' (by (with_reducible repeat (first | apply Kd.R_alloc | apply Kd.R_drewN | apply Kd.R_drew)); exact HO193.out) (Kd.R_base ho0) hb); have n1_ := Aside0.mk (Kd.R_lower (Kd.R_new' ho0 (Kd.R_lt (by (with_reducible repeat (first | apply Kd.R_alloc | apply Kd.R_drewN | apply Kd.R_drew)); exact HO193.out))) (below_size (by repeat (first | (with_reducible first | exact HB.out | apply below_alloc | apply pw_below_drewN | apply below_drew1 | refine below_set ?_ GE188.out) | exact HB.out)))); have n2_ := Aside0.mk (blk_below (g := gb188) (o := .cells #[.slice A0_0 l0_0.length c0_0, .bool a0_1] 28 (0, 0)) (by (with_reducible repeat (first | refine blk_drewN ?_ _ | refine blk_drew ?_ | refine blk_alloc ?_ _)); exact BK188.out) hb); have n3_ := Aside0.mk (below_step (by repeat (first | (with_reducible first | exact HB.out | apply below_alloc | apply pw_below_drewN | apply below_drew1 | refine below_set ?_ GE188.out) | exact HB.out)) hb); clear HO193; clear BK188; clear HB; have HO193 := n0_; have HO196 := n1_; have BK188 := n2_; have HB := n3_; clear n0_ n1_ n2_ n3_; (try clear hb); (try clear hb2); (try clear hk); (try clear hi); (try clear ho0); obtain ⟨Ao14, co14, eo14⟩ := Kd.R_slice HO196.out; subst eo14))
    go_loopg [8, 25] k (fun kq v8 v25 w' => ∃ (x8_1 : Int) (x25_1 : Int), v8 = .int .i64 x8_1 ∧ v25 = .int .i64 x25_1 ∧ Aside0 (spec_soLeast.l0 kq t189 x8_1 t194 (t194.length : Int) x25_1 = some (r1, r2)) ∧ Aside0 (kq ≤ k) ∧ Aside0 (Kd.R (Kd.int .i64) 3 w' w.heap.size (fun _ => True) (.slice Ao14 t194.length co14) t194) ∧ Aside0 (w'.heap[gb188]? = some (.cells #[(.slice A0_0 l0_0.length c0_0), .bool a0_1] 28 (0, 0))) ∧ Aside0 (Below w.heap.size w w'))
    case atStart => exact ⟨(t189), (0), (by first | rfl | (simp; done) | (simp [*]; done)), (by first | rfl | (simp; done) | (simp [*]; done)), H', ⟨Nat.le_refl _⟩, ⟨by (with_reducible repeat (first | apply Kd.R_alloc | apply Kd.R_drewN | apply Kd.R_drew)); exact Kd.R_mono HO196.out (fun _ hk => trivial)⟩, ⟨by (with_reducible repeat (first | refine blk_drewN ?_ _ | refine blk_drew ?_ | refine blk_alloc ?_ _)); exact BK188.out⟩, ⟨by repeat (first | (with_reducible first | exact HB.out | apply below_alloc | apply pw_below_drewN | apply below_drew1 | refine below_set ?_ GE188.out) | exact HB.out)⟩⟩
    case round =>
      clear H'
      try clear p2
      try clear c3
      try clear c4
      try clear c5
      try clear hcz10_0
      try clear hcz10_1
      try clear hcz8_0
      try clear hcz8_1
      try clear hfz10_0
      try clear hfz10_1
      try clear hfz8_0
      try clear hfz8_1
      obtain ⟨x8_1, x25_1, rfl, rfl, HA, HK1, HO_23, BK188, HB⟩ := hrel
      cases gk with
      | zero => exact absurd HA.out (by simp [spec_soLeast.l0])
      | succ k1 =>
        have H := HA.out
        clear HA
        simp only [spec_soLeast.l0] at H
        by_cases c15 : x25_1 < (t194.length : Int)
        · rw [if_pos c15] at H
          have c15b0 : decide (x25_1 < (t194.length : Int)) = true := decide_eq_true c15
          clear c15
          by_cases c16 : 0 ≤ x25_1
          · rw [if_pos c16] at H
            have c16b0 : decide (0 ≤ x25_1) = true := decide_eq_true c16
            clear c16
            by_cases c17 : x25_1 < (t194.length : Int)
            · rw [if_pos c17] at H
              have c17b0 : decide (x25_1 < (t194.length : Int)) = true := decide_eq_true c17
              clear c17
              replace H := Option.bind_eq_some_iff.mp H
              obtain ⟨t198, A180, H⟩ := H
              replace H : ((spec_grCount.f k1 x8_1).bind fun t199 => (if t198 < t199 then (spec_soLeast.l0 k1 t189 (Go.bits .xor .i64 t189 (rd t194 x25_1)) t194 (t194.length : Int) (wrap64 (x25_1 + 1))) else ((spec_grCount.f k1 (Go.bits .xor .i64 t189 (rd t194 x25_1))).bind fun t200 => ((spec_grCount.f k1 x8_1).bind fun t201 => (if t200 = t201 then (if (Go.bits .xor .i64 t189 (rd t194 x25_1)) < x8_1 then (spec_soLeast.l0 k1 t189 (Go.bits .xor .i64 t189 (rd t194 x25_1)) t194 (t194.length : Int) (wrap64 (x25_1 + 1))) else (spec_soLeast.l0 k1 t189 x8_1 t194 (t194.length : Int) (wrap64 (x25_1 + 1)))) else (spec_soLeast.l0 k1 t189 x8_1 t194 (t194.length : Int) (wrap64 (x25_1 + 1)))))))) = some (r1, r2) := H
              have A18 := Aside0.mk A180
              clear A180
              replace H := Option.bind_eq_some_iff.mp H
              obtain ⟨t199, A190, H⟩ := H
              replace H : (if t198 < t199 then (spec_soLeast.l0 k1 t189 (Go.bits .xor .i64 t189 (rd t194 x25_1)) t194 (t194.length : Int) (wrap64 (x25_1 + 1))) else ((spec_grCount.f k1 (Go.bits .xor .i64 t189 (rd t194 x25_1))).bind fun t200 => ((spec_grCount.f k1 x8_1).bind fun t201 => (if t200 = t201 then (if (Go.bits .xor .i64 t189 (rd t194 x25_1)) < x8_1 then (spec_soLeast.l0 k1 t189 (Go.bits .xor .i64 t189 (rd t194 x25_1)) t194 (t194.length : Int) (wrap64 (x25_1 + 1))) else (spec_soLeast.l0 k1 t189 x8_1 t194 (t194.length : Int) (wrap64 (x25_1 + 1)))) else (spec_soLeast.l0 k1 t189 x8_1 t194 (t194.length : Int) (wrap64 (x25_1 + 1))))))) = some (r1, r2) := H
              have A19 := Aside0.mk A190
              clear A190
              by_cases c20 : t198 < t199
              · rw [if_pos c20] at H
                have c20b0 : decide (t198 < t199) = true := decide_eq_true c20
                clear c20
                have H' := Aside0.mk H
                clear H
                have p197 : 0 ≤ (x25_1 : Int) := of_decide_eq_true (by first | (with_reducible assumption) | assumption)
                have q197 : x25_1 < (t194.length : Int) := of_decide_eq_true (by first | (with_reducible assumption) | assumption)
                obtain ⟨ad197, e197, hx197_0⟩ := Kd.at_int (Kd.R_reads' HO_23.out).2.2 x25_1 p197 q197
                cases e197
                replace p197 := eq_true p197
                replace q197 := eq_true q197
                go_wp2_with (first | ((with_reducible refine gate_callee (f := 56) rfl ?_); refine goesL_ (some 33) rfl rfl Try.func56 (by kernel_rfl) rfl #[.int .i64 (Go.bits .xor .i64 t189 (rd t194 x25_1))] rfl (by (try simp only [List.map_toArray, List.map_cons, List.map_nil]); first | done | rfl | (simp only [List.length_drop, List.length_take]; rfl)) ?_; (with_reducible refine (spec_grCount.calls k1 (Go.bits .xor .i64 t189 (rd t194 x25_1)) t198 _ A18.out).mono ?_); rintro e w' ⟨rfl, ⟨nd, rfl⟩⟩; refine ⟨_, rfl, ?_⟩) | ((with_reducible refine gate_callee (f := 56) rfl ?_); refine goesL_ (some 35) rfl rfl Try.func56 (by kernel_rfl) rfl #[.int .i64 x8_1] rfl (by (try simp only [List.map_toArray, List.map_cons, List.map_nil]); first | done | rfl | (simp only [List.length_drop, List.length_take]; rfl)) ?_; (with_reducible refine (spec_grCount.calls k1 x8_1 t199 _ A19.out).mono ?_); rintro e w' ⟨rfl, ⟨nd, rfl⟩⟩; refine ⟨_, rfl, ?_⟩))
                go_roundg k1
                case measure => have := HK1.out; omega
                case rel => exact ⟨(Go.bits .xor .i64 t189 (rd t194 x25_1)), (wrap64 (x25_1 + 1)), (by first | rfl | (simp; done) | (simp [*]; done)), (by first | rfl | (simp; done) | (simp [*]; done)), H', ⟨by have := HK1.out; omega⟩, ⟨by (with_reducible repeat (first | apply Kd.R_alloc | apply Kd.R_drewN | apply Kd.R_drew)); exact HO_23.out⟩, ⟨by (with_reducible repeat (first | refine blk_drewN ?_ _ | refine blk_drew ?_ | refine blk_alloc ?_ _)); exact BK188.out⟩, ⟨by repeat (first | (with_reducible first | exact HB.out | apply below_alloc | apply pw_below_drewN | apply below_drew1 | refine below_set ?_ GE188.out) | exact HB.out)⟩⟩
              · rw [if_neg c20] at H
                have c20b0 : decide (t198 < t199) = false := decide_eq_false c20
                clear c20
                replace H := Option.bind_eq_some_iff.mp H
                obtain ⟨t200, A210, H⟩ := H
                replace H : ((spec_grCount.f k1 x8_1).bind fun t201 => (if t200 = t201 then (if (Go.bits .xor .i64 t189 (rd t194 x25_1)) < x8_1 then (spec_soLeast.l0 k1 t189 (Go.bits .xor .i64 t189 (rd t194 x25_1)) t194 (t194.length : Int) (wrap64 (x25_1 + 1))) else (spec_soLeast.l0 k1 t189 x8_1 t194 (t194.length : Int) (wrap64 (x25_1 + 1)))) else (spec_soLeast.l0 k1 t189 x8_1 t194 (t194.length : Int) (wrap64 (x25_1 + 1))))) = some (r1, r2) := H
                have A21 := Aside0.mk A210
                clear A210
                replace H := Option.bind_eq_some_iff.mp H
                obtain ⟨t201, A220, H⟩ := H
                replace H : (if t200 = t201 then (if (Go.bits .xor .i64 t189 (rd t194 x25_1)) < x8_1 then (spec_soLeast.l0 k1 t189 (Go.bits .xor .i64 t189 (rd t194 x25_1)) t194 (t194.length : Int) (wrap64 (x25_1 + 1))) else (spec_soLeast.l0 k1 t189 x8_1 t194 (t194.length : Int) (wrap64 (x25_1 + 1)))) else (spec_soLeast.l0 k1 t189 x8_1 t194 (t194.length : Int) (wrap64 (x25_1 + 1)))) = some (r1, r2) := H
                have A22 := Aside0.mk A220
                clear A220
                by_cases c23 : t200 = t201
                · rw [if_pos c23] at H
                  have c23b0 : (t200 == t201) = true := beq_iff_eq.mpr c23
                  have c23b1 : (t200 != t201) = false := bne_eq_false_iff_eq.mpr c23
                  clear c23
                  by_cases c24 : (Go.bits .xor .i64 t189 (rd t194 x25_1)) < x8_1
                  · rw [if_pos c24] at H
                    have c24b0 : decide ((Go.bits .xor .i64 t189 (rd t194 x25_1)) < x8_1) = true := decide_eq_true c24
                    clear c24
                    have H' := Aside0.mk H
                    clear H
                    have p197 : 0 ≤ (x25_1 : Int) := of_decide_eq_true (by first | (with_reducible assumption) | assumption)
                    have q197 : x25_1 < (t194.length : Int) := of_decide_eq_true (by first | (with_reducible assumption) | assumption)
                    obtain ⟨ad197, e197, hx197_0⟩ := Kd.at_int (Kd.R_reads' HO_23.out).2.2 x25_1 p197 q197
                    cases e197
                    replace p197 := eq_true p197
                    replace q197 := eq_true q197
                    go_wp2_with (first | ((with_reducible refine gate_callee (f := 56) rfl ?_); refine goesL_ (some 33) rfl rfl Try.func56 (by kernel_rfl) rfl #[.int .i64 (Go.bits .xor .i64 t189 (rd t194 x25_1))] rfl (by (try simp only [List.map_toArray, List.map_cons, List.map_nil]); first | done | rfl | (simp only [List.length_drop, List.length_take]; rfl)) ?_; (with_reducible refine (spec_grCount.calls k1 (Go.bits .xor .i64 t189 (rd t194 x25_1)) t198 _ A18.out).mono ?_); rintro e w' ⟨rfl, ⟨nd, rfl⟩⟩; refine ⟨_, rfl, ?_⟩) | ((with_reducible refine gate_callee (f := 56) rfl ?_); refine goesL_ (some 35) rfl rfl Try.func56 (by kernel_rfl) rfl #[.int .i64 x8_1] rfl (by (try simp only [List.map_toArray, List.map_cons, List.map_nil]); first | done | rfl | (simp only [List.length_drop, List.length_take]; rfl)) ?_; (with_reducible refine (spec_grCount.calls k1 x8_1 t199 _ A19.out).mono ?_); rintro e w' ⟨rfl, ⟨nd, rfl⟩⟩; refine ⟨_, rfl, ?_⟩) | (go_at_call 56; (with_reducible refine (spec_grCount.calls k1 (Go.bits .xor .i64 t189 (rd t194 x25_1)) t200 _ A21.out).mono ?_); rintro e w' ⟨rfl, ⟨nd, rfl⟩⟩) | (go_at_call 56; (with_reducible refine (spec_grCount.calls k1 x8_1 t201 _ A22.out).mono ?_); rintro e w' ⟨rfl, ⟨nd, rfl⟩⟩))
                    go_roundg k1
                    case measure => have := HK1.out; omega
                    case rel => exact ⟨(Go.bits .xor .i64 t189 (rd t194 x25_1)), (wrap64 (x25_1 + 1)), (by first | rfl | (simp; done) | (simp [*]; done)), (by first | rfl | (simp; done) | (simp [*]; done)), H', ⟨by have := HK1.out; omega⟩, ⟨by (with_reducible repeat (first | apply Kd.R_alloc | apply Kd.R_drewN | apply Kd.R_drew)); exact HO_23.out⟩, ⟨by (with_reducible repeat (first | refine blk_drewN ?_ _ | refine blk_drew ?_ | refine blk_alloc ?_ _)); exact BK188.out⟩, ⟨by repeat (first | (with_reducible first | exact HB.out | apply below_alloc | apply pw_below_drewN | apply below_drew1 | refine below_set ?_ GE188.out) | exact HB.out)⟩⟩
                  · rw [if_neg c24] at H
                    have c24b0 : decide ((Go.bits .xor .i64 t189 (rd t194 x25_1)) < x8_1) = false := decide_eq_false c24
                    clear c24
                    have H' := Aside0.mk H
                    clear H
                    have p197 : 0 ≤ (x25_1 : Int) := of_decide_eq_true (by first | (with_reducible assumption) | assumption)
                    have q197 : x25_1 < (t194.length : Int) := of_decide_eq_true (by first | (with_reducible assumption) | assumption)
                    obtain ⟨ad197, e197, hx197_0⟩ := Kd.at_int (Kd.R_reads' HO_23.out).2.2 x25_1 p197 q197
                    cases e197
                    replace p197 := eq_true p197
                    replace q197 := eq_true q197
                    go_wp2_with (first | ((with_reducible refine gate_callee (f := 56) rfl ?_); refine goesL_ (some 33) rfl rfl Try.func56 (by kernel_rfl) rfl #[.int .i64 (Go.bits .xor .i64 t189 (rd t194 x25_1))] rfl (by (try simp only [List.map_toArray, List.map_cons, List.map_nil]); first | done | rfl | (simp only [List.length_drop, List.length_take]; rfl)) ?_; (with_reducible refine (spec_grCount.calls k1 (Go.bits .xor .i64 t189 (rd t194 x25_1)) t198 _ A18.out).mono ?_); rintro e w' ⟨rfl, ⟨nd, rfl⟩⟩; refine ⟨_, rfl, ?_⟩) | ((with_reducible refine gate_callee (f := 56) rfl ?_); refine goesL_ (some 35) rfl rfl Try.func56 (by kernel_rfl) rfl #[.int .i64 x8_1] rfl (by (try simp only [List.map_toArray, List.map_cons, List.map_nil]); first | done | rfl | (simp only [List.length_drop, List.length_take]; rfl)) ?_; (with_reducible refine (spec_grCount.calls k1 x8_1 t199 _ A19.out).mono ?_); rintro e w' ⟨rfl, ⟨nd, rfl⟩⟩; refine ⟨_, rfl, ?_⟩) | (go_at_call 56; (with_reducible refine (spec_grCount.calls k1 (Go.bits .xor .i64 t189 (rd t194 x25_1)) t200 _ A21.out).mono ?_); rintro e w' ⟨rfl, ⟨nd, rfl⟩⟩) | (go_at_call 56; (with_reducible refine (spec_grCount.calls k1 x8_1 t201 _ A22.out).mono ?_); rintro e w' ⟨rfl, ⟨nd, rfl⟩⟩))
                    go_roundg k1
                    case measure => have := HK1.out; omega
                    case rel => exact ⟨(x8_1), (wrap64 (x25_1 + 1)), (by first | rfl | (simp; done) | (simp [*]; done)), (by first | rfl | (simp; done) | (simp [*]; done)), H', ⟨by have := HK1.out; omega⟩, ⟨by (with_reducible repeat (first | apply Kd.R_alloc | apply Kd.R_drewN | apply Kd.R_drew)); exact HO_23.out⟩, ⟨by (with_reducible repeat (first | refine blk_drewN ?_ _ | refine blk_drew ?_ | refine blk_alloc ?_ _)); exact BK188.out⟩, ⟨by repeat (first | (with_reducible first | exact HB.out | apply below_alloc | apply pw_below_drewN | apply below_drew1 | refine below_set ?_ GE188.out) | exact HB.out)⟩⟩
                · rw [if_neg c23] at H
                  have c23b0 : (t200 == t201) = false := beq_eq_false_iff_ne.mpr c23
                  have c23b1 : (t200 != t201) = true := bne_iff_ne.mpr c23
                  have H' := Aside0.mk H
                  clear H
                  have p197 : 0 ≤ (x25_1 : Int) := of_decide_eq_true (by first | (with_reducible assumption) | assumption)
                  have q197 : x25_1 < (t194.length : Int) := of_decide_eq_true (by first | (with_reducible assumption) | assumption)
                  obtain ⟨ad197, e197, hx197_0⟩ := Kd.at_int (Kd.R_reads' HO_23.out).2.2 x25_1 p197 q197
                  cases e197
                  replace p197 := eq_true p197
                  replace q197 := eq_true q197
                  go_wp2_with (first | ((with_reducible refine gate_callee (f := 56) rfl ?_); refine goesL_ (some 33) rfl rfl Try.func56 (by kernel_rfl) rfl #[.int .i64 (Go.bits .xor .i64 t189 (rd t194 x25_1))] rfl (by (try simp only [List.map_toArray, List.map_cons, List.map_nil]); first | done | rfl | (simp only [List.length_drop, List.length_take]; rfl)) ?_; (with_reducible refine (spec_grCount.calls k1 (Go.bits .xor .i64 t189 (rd t194 x25_1)) t198 _ A18.out).mono ?_); rintro e w' ⟨rfl, ⟨nd, rfl⟩⟩; refine ⟨_, rfl, ?_⟩) | ((with_reducible refine gate_callee (f := 56) rfl ?_); refine goesL_ (some 35) rfl rfl Try.func56 (by kernel_rfl) rfl #[.int .i64 x8_1] rfl (by (try simp only [List.map_toArray, List.map_cons, List.map_nil]); first | done | rfl | (simp only [List.length_drop, List.length_take]; rfl)) ?_; (with_reducible refine (spec_grCount.calls k1 x8_1 t199 _ A19.out).mono ?_); rintro e w' ⟨rfl, ⟨nd, rfl⟩⟩; refine ⟨_, rfl, ?_⟩) | (go_at_call 56; (with_reducible refine (spec_grCount.calls k1 (Go.bits .xor .i64 t189 (rd t194 x25_1)) t200 _ A21.out).mono ?_); rintro e w' ⟨rfl, ⟨nd, rfl⟩⟩) | (go_at_call 56; (with_reducible refine (spec_grCount.calls k1 x8_1 t201 _ A22.out).mono ?_); rintro e w' ⟨rfl, ⟨nd, rfl⟩⟩))
                  go_roundg k1
                  case measure => have := HK1.out; omega
                  case rel => exact ⟨(x8_1), (wrap64 (x25_1 + 1)), (by first | rfl | (simp; done) | (simp [*]; done)), (by first | rfl | (simp; done) | (simp [*]; done)), H', ⟨by have := HK1.out; omega⟩, ⟨by (with_reducible repeat (first | apply Kd.R_alloc | apply Kd.R_drewN | apply Kd.R_drew)); exact HO_23.out⟩, ⟨by (with_reducible repeat (first | refine blk_drewN ?_ _ | refine blk_drew ?_ | refine blk_alloc ?_ _)); exact BK188.out⟩, ⟨by repeat (first | (with_reducible first | exact HB.out | apply below_alloc | apply pw_below_drewN | apply below_drew1 | refine below_set ?_ GE188.out) | exact HB.out)⟩⟩
            · rw [if_neg c17] at H
              exact absurd H (by simp)
          · rw [if_neg c16] at H
            exact absurd H (by simp)
        · rw [if_neg c15] at H
          have c15b0 : decide (x25_1 < (t194.length : Int)) = false := decide_eq_false c15
          clear c15
          simp only [Option.some.injEq, Prod.mk.injEq] at H
          obtain ⟨rfl, rfl⟩ := H
          go_wp2
          go_ret2
          exact ⟨by first | rfl | (simp [errW_none, errW_some] <;> rfl) | (simp [*, errW_none, errW_some] <;> rfl), by repeat (first | (with_reducible first | exact HB.out | apply below_alloc | apply pw_below_drewN | apply below_drew1 | refine below_set ?_ GE188.out) | exact HB.out)⟩
  · replace c4 := Bool.eq_false_iff.mpr c4
    subst c4
    have H1 : (some (0, false)) = some (r1, r2) := by rw [if_neg (show ¬ (false = true) by decide)] at H; exact H
    clear H
    have H := H1
    clear H1
    simp only [Option.some.injEq, Prod.mk.injEq] at H
    obtain ⟨rfl, rfl⟩ := H
    go_enter Try.func39, Try.ntmps39
    go_wp2_with (first | ((with_reducible refine gate_dst (N := 2) rfl ?_); refine box_event ?hg (N := 2) ?hd (cs := #[.slice A0_0 l0_0.length c0_0, .bool a0_1]) (t := 28) ?hr ?_; (case hd => rfl); (case hg => rfl); (case hr => first | (go_simp; done) | (go_simp; rfl)); intro gb188 hg w25 hbox hb; have n0_ := Aside0.mk (below_step (by repeat (first | (with_reducible first | exact HB.out | apply below_alloc | apply pw_below_drewN | apply below_drew1) | exact HB.out)) hb); have n1_ := Aside0.mk (hbox); have n2_ := Aside0.mk ((by rw [hg]; exact (below_size (by repeat (first | (with_reducible first | exact HB.out | apply below_alloc | apply pw_below_drewN | apply below_drew1) | exact HB.out))) : w.heap.size ≤ gb188)); have n3_ := Aside0.mk ((by rw [hg]; exact (below_size (by repeat (first | (with_reducible first | exact HB.out | apply below_alloc | apply pw_below_drewN | apply below_drew1) | exact HB.out))) : w.heap.size ≤ gb188)); clear HB; have HB := n0_; have BK188 := n1_; have GW188 := n2_; have GE188 := n3_; clear n0_ n1_ n2_ n3_; clear hb hbox hg; have hcz26_0 : w25.cell? ⟨gb188, 0, none⟩ = some (.slice A0_0 l0_0.length c0_0) := (blk_cell BK188.out 0).trans rfl; have hcz26_1 : w25.cell? ⟨gb188, 1, none⟩ = some (.bool a0_1) := (blk_cell BK188.out 1).trans rfl; have hfz26_0 := blk_frozen BK188.out 0; have hfz26_1 := blk_frozen BK188.out 1) | ((with_reducible refine gate_callee (f := 54) rfl ?_); refine goesL_ (some 15) rfl rfl Try.func54 (by kernel_rfl) rfl #[.agg #[.slice A0_0 l0_0.length c0_0, .bool a0_1], .int .i64 a1] rfl (by (try simp only [List.map_toArray, List.map_cons, List.map_nil]); first | done | rfl | (simp only [List.length_drop, List.length_take]; rfl)) ?_; (with_reducible refine (spec_soSolve.calls k _ _ l0_0 a0_1 a1 t189 false _ ?side1 ?side2 A3.out).mono ?_); (case side1 => repeat (first | exact (Kd.C_below HR0_0.out HB.out) | (with_reducible refine Kd.C_alloc ?_ _) | (with_reducible refine Kd.C_drewN ?_ _) | (with_reducible refine Kd.C_drew ?_))); (case side2 => exact HC0_0.out); rintro e w27 ⟨rfl, hb⟩; refine ⟨_, rfl, ?_⟩; have n0_ := Aside0.mk (blk_below (g := gb188) (o := .cells #[.slice A0_0 l0_0.length c0_0, .bool a0_1] 28 (0, 0)) (by (with_reducible repeat (first | refine blk_drewN ?_ _ | refine blk_drew ?_ | refine blk_alloc ?_ _)); exact BK188.out) hb); have n1_ := Aside0.mk (below_step (by repeat (first | (with_reducible first | exact HB.out | apply below_alloc | apply pw_below_drewN | apply below_drew1 | refine below_set ?_ GE188.out) | exact HB.out)) hb); clear BK188; clear HB; have BK188 := n0_; have HB := n1_; clear n0_ n1_; (try clear hb); (try clear hb2); (try clear hk); (try clear hi)))
    go_ret2
    exact ⟨by first | rfl | (simp [errW_none, errW_some] <;> rfl) | (simp [*, errW_none, errW_some] <;> rfl), by repeat (first | (with_reducible first | exact HB.out | apply below_alloc | apply pw_below_drewN | apply below_drew1 | refine below_set ?_ GE188.out) | exact HB.out)⟩

/-! ### spec_l1In: function 47 -/
def spec_l1In.f (a0 : Int) (a1 : Int) (a2 : Int) : Option (Bool) := if a0 ≥ a1 then (some (decide (a0 ≤ a2))) else (some false)
set_option maxHeartbeats 8000000 in
set_option maxRecDepth 100000 in
theorem spec_l1In.calls (a0 : Int) (a1 : Int) (a2 : Int) (r : Bool) (w : World) (h : spec_l1In.f a0 a1 a2 = some r) :
    Calls Try.prog 47 #[.int .i64 a0, .int .i64 a1, .int .i64 a2] w fun e w' => e = .returned (.bool r) ∧ Drawn0 w w' := by
  have H : (if a0 ≥ a1 then (some (decide (a0 ≤ a2))) else (some false)) = some r := h
  clear h
  by_cases c4 : a0 ≥ a1
  · rw [if_pos c4] at H
    have c4b0 : decide (a1 ≤ a0) = true := decide_eq_true c4
    clear c4
    obtain rfl := Option.some.inj H
    go_enter Try.func47, Try.ntmps47
    go_wp2
    go_ret
    exact ⟨by first | rfl | (simp; done) | (simp [*]; done), by repeat (first | exact Drawn0.refl _ | apply Drawn0.step)⟩
  · rw [if_neg c4] at H
    have c4b0 : decide (a1 ≤ a0) = false := decide_eq_false c4
    clear c4
    obtain rfl := Option.some.inj H
    go_enter Try.func47, Try.ntmps47
    go_wp2
    go_ret
    exact ⟨by first | rfl | (simp; done) | (simp [*]; done), by repeat (first | exact Drawn0.refl _ | apply Drawn0.step)⟩

/-! ### spec_grSize: function 57 -/
def spec_grSize.f (a0 : Int) : Option (Bool) := (spec_l1In.f a0 1 16).bind fun t202 => (some t202)
set_option maxHeartbeats 8000000 in
set_option maxRecDepth 100000 in
theorem spec_grSize.calls (a0 : Int) (r : Bool) (w : World) (h : spec_grSize.f a0 = some r) :
    Calls Try.prog 57 #[.int .i64 a0] w fun e w' => e = .returned (.bool r) ∧ Drawn0 w w' := by
  have H : ((spec_l1In.f a0 1 16).bind fun t202 => (some t202)) = some r := h
  clear h
  replace H := Option.bind_eq_some_iff.mp H
  obtain ⟨t202, A20, H⟩ := H
  replace H : (some t202) = some r := H
  have A2 := Aside0.mk A20
  clear A20
  obtain rfl := Option.some.inj H
  go_enter Try.func57, Try.ntmps57
  go_wp2_with (first | ((with_reducible refine gate_callee (f := 47) rfl ?_); refine goesL_ (some 4) rfl rfl Try.func47 (by kernel_rfl) rfl #[.int .i64 a0, .int .i64 1, .int .i64 16] rfl (by (try simp only [List.map_toArray, List.map_cons, List.map_nil]); first | done | rfl | (simp only [List.length_drop, List.length_take]; rfl)) ?_; (with_reducible refine (spec_l1In.calls a0 1 16 t202 _ A2.out).mono ?_); rintro e w' ⟨rfl, ⟨nd, rfl⟩⟩; refine ⟨_, rfl, ?_⟩))
  go_ret
  exact ⟨by first | rfl | (simp; done) | (simp [*]; done), by repeat (first | exact Drawn0.refl _ | apply Drawn0.step)⟩

/-! ### spec_l1All: function 58 -/
def spec_l1All.l0 : Nat → Int → Int → List Int → Int → Int → Option (Bool)
  | 0, _, _, _, _, _ => none
  | k + 1, x1, x2, x9, x10, x11 => if x11 < x10 then (if 0 ≤ x11 then (if x11 < (x9.length : Int) then ((spec_l1In.f (rd x9 x11) x1 x2).bind fun t204 => (if t204 = true then (spec_l1All.l0 k x1 x2 x9 x10 (wrap64 (x11 + 1))) else (some false))) else (none)) else (none)) else (some true)
def spec_l1All.f (k : Nat) (l0 : List Int) (a1 : Int) (a2 : Int) : Option (Bool) := spec_l1All.l0 k a1 a2 l0 (l0.length : Int) 0
theorem spec_l1All.mono_l : ∀ k, (∀ y0 y1 y2 y3 y4, LeO (spec_l1All.l0 k y0 y1 y2 y3 y4) (spec_l1All.l0 (k + 1) y0 y1 y2 y3 y4))
  | 0 => fun _ _ _ _ _ r h => by simp [spec_l1All.l0] at h
  | k + 1 => by
    have ih0 := spec_l1All.mono_l k
    · intro y0 y1 y2 y3 y4
      unfold spec_l1All.l0
      repeat' first
      | (with_reducible exact ih0 _ _ _ _ _)
      | (with_reducible exact LeO.refl _)
      | (with_reducible exact LeO.none _)
      | (with_reducible refine LeO.ite ?_ ?_)
      | (with_reducible refine LeO.bind ?_ (fun _ => ?_))
      | exact ih0 _ _ _ _ _
      | exact LeO.none _
      | refine LeO.ite ?_ ?_
      | refine LeO.bind ?_ (fun _ => ?_)
theorem spec_l1All.mono : ∀ a0 a1 a2 k, LeO (spec_l1All.f k a0 a1 a2) (spec_l1All.f (k + 1) a0 a1 a2) := by
  intro a0 a1 a2 k
  have ih0 := spec_l1All.mono_l k
  unfold spec_l1All.f
  repeat' first
      | (with_reducible exact ih0 _ _ _ _ _)
      | (with_reducible exact LeO.refl _)
      | (with_reducible exact LeO.none _)
      | (with_reducible refine LeO.ite ?_ ?_)
      | (with_reducible refine LeO.bind ?_ (fun _ => ?_))
      | exact ih0 _ _ _ _ _
      | exact LeO.none _
      | refine LeO.ite ?_ ?_
      | refine LeO.bind ?_ (fun _ => ?_)
set_option maxHeartbeats 8000000 in
set_option maxRecDepth 100000 in
theorem spec_l1All.calls (k : Nat) (A0 : Option Addr) (c0 : Nat) (l0 : List Int) (a1 : Int) (a2 : Int) (r : Bool) (w : World) (hr0 : Kd.C (Kd.int .i64) w A0 l0.length l0) (hc0 : l0.length ≤ c0) (h : spec_l1All.f k l0 a1 a2 = some r) :
    Calls Try.prog 58 #[.slice A0 l0.length c0, .int .i64 a1, .int .i64 a2] w fun e w' => e = .returned (.bool r) ∧ Drawn0 w w' := by
  have HR0 := Aside0.mk hr0
  have HC0 := Aside0.mk hc0
  clear hr0 hc0
  have H : (spec_l1All.l0 k a1 a2 l0 (l0.length : Int) 0) = some r := h
  clear h
  have H' := Aside0.mk H
  clear H
  go_enter Try.func58, Try.ntmps58
  go_wp2
  go_loopg [11] k (fun kq v11 w' => ∃ (x11_1 : Int), v11 = .int .i64 x11_1 ∧ Aside0 (spec_l1All.l0 kq a1 a2 l0 (l0.length : Int) x11_1 = some r) ∧ Aside0 (kq ≤ k) ∧ Drawn0 w w')
  case atStart => exact ⟨(0), (by first | rfl | (simp; done) | (simp [*]; done)), H', ⟨Nat.le_refl _⟩, by repeat (first | exact Drawn0.refl _ | apply Drawn0.step)⟩
  case round =>
    clear H'
    try clear p2
    obtain ⟨x11_1, rfl, HA, HK1, ⟨m1, rfl⟩⟩ := hrel
    cases gk with
    | zero => exact absurd HA.out (by simp [spec_l1All.l0])
    | succ k1 =>
      have H := HA.out
      clear HA
      simp only [spec_l1All.l0] at H
      by_cases c4 : x11_1 < (l0.length : Int)
      · rw [if_pos c4] at H
        have c4b0 : decide (x11_1 < (l0.length : Int)) = true := decide_eq_true c4
        clear c4
        by_cases c5 : 0 ≤ x11_1
        · rw [if_pos c5] at H
          have c5b0 : decide (0 ≤ x11_1) = true := decide_eq_true c5
          clear c5
          by_cases c6 : x11_1 < (l0.length : Int)
          · rw [if_pos c6] at H
            have c6b0 : decide (x11_1 < (l0.length : Int)) = true := decide_eq_true c6
            clear c6
            replace H := Option.bind_eq_some_iff.mp H
            obtain ⟨t204, A70, H⟩ := H
            replace H : (if t204 = true then (spec_l1All.l0 k1 a1 a2 l0 (l0.length : Int) (wrap64 (x11_1 + 1))) else (some false)) = some r := H
            have A7 := Aside0.mk A70
            clear A70
            by_cases c8 : t204 = true
            · subst c8
              have H1 : (spec_l1All.l0 k1 a1 a2 l0 (l0.length : Int) (wrap64 (x11_1 + 1))) = some r := by rw [if_pos rfl] at H; exact H
              clear H
              have H := H1
              clear H1
              have H' := Aside0.mk H
              clear H
              have p203 : 0 ≤ (x11_1 : Int) := of_decide_eq_true (by first | (with_reducible assumption) | assumption)
              have q203 : x11_1 < (l0.length : Int) := of_decide_eq_true (by first | (with_reducible assumption) | assumption)
              obtain ⟨ad203, e203, hx203_0⟩ := Kd.at_int HR0.out x11_1 p203 q203
              cases e203
              replace p203 := eq_true p203
              replace q203 := eq_true q203
              go_wp2_with (first | ((with_reducible refine gate_callee (f := 47) rfl ?_); refine goesL_ (some 18) rfl rfl Try.func47 (by kernel_rfl) rfl #[.int .i64 (rd l0 x11_1), .int .i64 a1, .int .i64 a2] rfl (by (try simp only [List.map_toArray, List.map_cons, List.map_nil]); first | done | rfl | (simp only [List.length_drop, List.length_take]; rfl)) ?_; (with_reducible refine (spec_l1In.calls (rd l0 x11_1) a1 a2 true _ A7.out).mono ?_); rintro e w' ⟨rfl, ⟨nd, rfl⟩⟩; refine ⟨_, rfl, ?_⟩))
              go_roundg k1
              case measure => have := HK1.out; omega
              case rel => exact ⟨(wrap64 (x11_1 + 1)), (by first | rfl | (simp; done) | (simp [*]; done)), H', ⟨by have := HK1.out; omega⟩, by repeat (first | exact Drawn0.refl _ | apply Drawn0.step)⟩
            · replace c8 := Bool.eq_false_iff.mpr c8
              subst c8
              have H1 : (some false) = some r := by rw [if_neg (show ¬ (false = true) by decide)] at H; exact H
              clear H
              have H := H1
              clear H1
              obtain rfl := Option.some.inj H
              have p203 : 0 ≤ (x11_1 : Int) := of_decide_eq_true (by first | (with_reducible assumption) | assumption)
              have q203 : x11_1 < (l0.length : Int) := of_decide_eq_true (by first | (with_reducible assumption) | assumption)
              obtain ⟨ad203, e203, hx203_0⟩ := Kd.at_int HR0.out x11_1 p203 q203
              cases e203
              replace p203 := eq_true p203
              replace q203 := eq_true q203
              go_wp2_with (first | ((with_reducible refine gate_callee (f := 47) rfl ?_); refine goesL_ (some 18) rfl rfl Try.func47 (by kernel_rfl) rfl #[.int .i64 (rd l0 x11_1), .int .i64 a1, .int .i64 a2] rfl (by (try simp only [List.map_toArray, List.map_cons, List.map_nil]); first | done | rfl | (simp only [List.length_drop, List.length_take]; rfl)) ?_; (with_reducible refine (spec_l1In.calls (rd l0 x11_1) a1 a2 false _ A7.out).mono ?_); rintro e w' ⟨rfl, ⟨nd, rfl⟩⟩; refine ⟨_, rfl, ?_⟩))
              go_ret
              exact ⟨by first | rfl | (simp; done) | (simp [*]; done), by repeat (first | exact Drawn0.refl _ | apply Drawn0.step)⟩
          · rw [if_neg c6] at H
            exact absurd H (by simp)
        · rw [if_neg c5] at H
          exact absurd H (by simp)
      · rw [if_neg c4] at H
        have c4b0 : decide (x11_1 < (l0.length : Int)) = false := decide_eq_false c4
        clear c4
        obtain rfl := Option.some.inj H
        go_wp2
        go_ret
        exact ⟨by first | rfl | (simp; done) | (simp [*]; done), by repeat (first | exact Drawn0.refl _ | apply Drawn0.step)⟩

/-! ### spec_grGood: function 62 -/
section
open Go.Proofs.Ythjbccbaobkobaa.Bit Go.Proofs.Ythjbccbaobkobaa.Gra
def spec_grGood.f (l0_0 : List Int) (a0_1 : Bool) : Option (Bool) := some (goodB l0_0)
theorem gg_quiet {w w' : World} {n : Nat} (h : Drawn0 (w.drewN n) w') : ∃ m, w' = w.drewN m := by
  obtain ⟨m, rfl⟩ := h
  exact ⟨n + m, World.drewN_drewN ..⟩
theorem gg_grSize_run (n : Int) (w : World) : Calls Try.prog 57 #[.int .i64 n] w fun e w' => e = .returned (.bool (decide (1 ≤ n ∧ n ≤ 16))) ∧ Drawn0 w w' := by
  refine spec_grSize.calls n _ w ?_
  unfold spec_grSize.f spec_l1In.f
  split
  · rename_i h; simp [show 1 ≤ n from h]
  · rename_i h; simp [show ¬ 1 ≤ n from h]

set_option maxHeartbeats 400000 in
theorem gg_grGood_size (A0_0 : Option Addr) (c0_0 : Nat) (l0_0 : List Int) (a0_1 : Bool) (w : World) (h : ¬ (1 ≤ (l0_0.length : Int) ∧ (l0_0.length : Int) ≤ 16)) :
    Calls Try.prog 62 #[.agg #[.slice A0_0 l0_0.length c0_0, .bool a0_1]] w fun e w' => e = .returned (.bool false) ∧ Below w.heap.size w w' := by
  have hu24 := Try.underlying28
  have hs : ∀ w, Calls Try.prog 57 #[.int .i64 (l0_0.length : Int)] w fun e w' => e = .returned (.bool false) ∧ Drawn0 w w' := by
    intro w
    have := gg_grSize_run l0_0.length w
    rwa [decide_eq_false h] at this
  clear h
  go_enter Try.func62, Try.ntmps62
  go_wp2_with fail
  go_quiet ((go_at_call 57; exact (hs _).mono fun _ _ ⟨he, hd⟩ => ⟨he, gg_quiet hd⟩))
  go_wp2
  go_ret
  exact ⟨rfl, pw_below_drewN (below_alloc (Below.refl _ _) _) _⟩

theorem gg_l1In_f (a b c : Int) : spec_l1In.f a b c = some (decide (b ≤ a ∧ a ≤ c)) := by
  unfold spec_l1In.f
  split
  · rename_i h; simp [show b ≤ a from h]
  · rename_i h; simp [show ¬ b ≤ a from h]
theorem gg_l1All_l (l : List Int) (a b : Int) (hl : l.length < 2 ^ 62) : ∀ n i k, i + n = l.length → n < k → spec_l1All.l0 k a b l (l.length : Int) (i : Int) = some (decide (∀ x ∈ l.drop i, a ≤ x ∧ x ≤ b)) := by
  intro n
  induction n with
  | zero =>
    intro i k hi hk
    obtain ⟨k, rfl⟩ : ∃ m, k = m + 1 := ⟨k - 1, by omega⟩
    rw [spec_l1All.l0, if_neg (by omega), show l.drop i = [] from List.drop_eq_nil_of_le (by omega)]
    simp
  | succ n ih =>
    intro i k hi hk
    obtain ⟨k, rfl⟩ : ∃ m, k = m + 1 := ⟨k - 1, by omega⟩
    have hlt : i < l.length := by omega
    have e : rd l (i : Int) = l[i] := by
      unfold rd
      rw [Int.toNat_natCast, List.getD_eq_getElem?_getD, List.getElem?_eq_getElem hlt]; rfl
    rw [spec_l1All.l0, if_pos (by omega), if_pos (by omega), if_pos (by omega), gg_l1In_f, e]
    simp only [bs]
    rw [List.drop_eq_getElem_cons hlt]
    by_cases h : a ≤ l[i] ∧ l[i] ≤ b
    · rw [decide_eq_true h, if_pos rfl, show ((i : Int) + 1) = ((i + 1 : Nat) : Int) from rfl, wrapn _ (by omega), ih (i + 1) k (by omega) (by omega)]
      congr 1
      rw [decide_eq_decide, List.forall_mem_cons]
      exact ⟨fun hh => ⟨h, hh⟩, fun hh => hh.2⟩
    · rw [decide_eq_false h, if_neg (by decide)]
      congr 1
      symm
      rw [decide_eq_false_iff_not]
      exact fun hh => h (hh _ (List.mem_cons_self ..))
theorem gg_l1All_f (l : List Int) (a b : Int) (hl : l.length < 2 ^ 62) (k : Nat) (hk : l.length < k) : spec_l1All.f k l a b = some (decide (∀ x ∈ l, a ≤ x ∧ x ≤ b)) := by
  unfold spec_l1All.f
  exact gg_l1All_l l a b hl l.length 0 k (by omega) hk

theorem gg_wtop {n : Nat} (h : n ≤ 16) : wrap64 (wrap64 (2 ^ n) - 1) = ((2 ^ n - 1 : Nat) : Int) := by
  have h1 := pow63 (y := n) (by omega)
  have h0 := Nat.two_pow_pos n
  have e : ((2 : Int) ^ n) = ((2 ^ n : Nat) : Int) := by push_cast; rfl
  rw [e, wrapn _ h1, show ((2 ^ n : Nat) : Int) - 1 = ((2 ^ n - 1 : Nat) : Int) from by omega, wrapn _ (by omega)]

theorem gg_l1All_run (A : Option Addr) (c : Nat) (l : List Int) (W : World) (h2 : l.length ≤ 16) (hr : Kd.C (Kd.int .i64) W A l.length l) (hc : l.length ≤ c) :
    Calls Try.prog 58 #[.slice A l.length c, .int .i64 0, .int .i64 (wrap64 (wrap64 (2 ^ l.length) - 1))] W fun e w' => e = .returned (.bool (decide (∀ x ∈ l, 0 ≤ x ∧ x ≤ ((2 ^ l.length - 1 : Nat) : Int)))) ∧ Drawn0 W w' := by
  refine spec_l1All.calls (l.length + 1) A c l 0 _ _ W hr hc ?_
  rw [gg_wtop h2]
  exact gg_l1All_f l _ _ (by omega) _ (by omega)

set_option maxRecDepth 100000 in
set_option maxHeartbeats 400000 in
theorem gg_grGood_range (A0_0 : Option Addr) (c0_0 : Nat) (l0_0 : List Int) (a0_1 : Bool) (w : World) (h : (1 ≤ (l0_0.length : Int) ∧ (l0_0.length : Int) ≤ 16)) (hr0_0 : Kd.C (Kd.int .i64) w A0_0 l0_0.length l0_0) (hc0_0 : l0_0.length ≤ c0_0)
    (hx : ¬ ∀ x ∈ l0_0, 0 ≤ x ∧ x ≤ ((2 ^ l0_0.length - 1 : Nat) : Int)) :
    Calls Try.prog 62 #[.agg #[.slice A0_0 l0_0.length c0_0, .bool a0_1]] w fun e w' => e = .returned (.bool false) ∧ Below w.heap.size w w' := by
  have hu24 := Try.underlying28
  have hs : ∀ w, Calls Try.prog 57 #[.int .i64 (l0_0.length : Int)] w fun e w' => e = .returned (.bool true) ∧ Drawn0 w w' := by
    intro w
    have := gg_grSize_run l0_0.length w
    rwa [decide_eq_true h] at this
  obtain ⟨h1, h2⟩ := h
  have hA : ∀ m, Calls Try.prog 58 #[.slice A0_0 l0_0.length c0_0, .int .i64 0, .int .i64 (wrap64 (wrap64 (2 ^ l0_0.length) - 1))] ((w.alloc (.cells #[.slice A0_0 l0_0.length c0_0, .bool a0_1] 28)).drewN m) fun e w' => e = .returned (.bool false) ∧ Drawn0 ((w.alloc (.cells #[.slice A0_0 l0_0.length c0_0, .bool a0_1] 28)).drewN m) w' := by
    intro m
    have h16 : l0_0.length ≤ 16 := by omega
    have hC := Kd.C_drewN (Kd.C_alloc hr0_0 (.cells #[.slice A0_0 l0_0.length c0_0, .bool a0_1] 28)) m
    have := gg_l1All_run A0_0 c0_0 l0_0 _ h16 hC hc0_0
    rwa [decide_eq_false hx] at this
  clear hx hr0_0
  go_enter Try.func62, Try.ntmps62
  go_wp2_with fail
  go_quiet ((first | (go_at_call 57; exact (hs _).mono fun _ _ ⟨he, hd⟩ => ⟨he, gg_quiet hd⟩) | (go_at_call 58; exact (hA _).mono fun _ _ ⟨he, hd⟩ => ⟨he, gg_quiet hd⟩)))
  go_wp2
  go_ret
  exact ⟨rfl, pw_below_drewN (below_alloc (Below.refl _ _) _) _⟩
theorem gg_grIn_f (x i : Nat) (hx : x < 2 ^ 63) : spec_grIn.f (x : Int) (i : Int) = some (x.testBit i) := by
  unfold spec_grIn.f
  rw [if_pos (Int.natCast_nonneg _), shrn x i hx, Nat.testBit_eq_decide_div_mod_eq]
  congr 1
  have e : Int.tmod ((x / 2 ^ i : Nat) : Int) 2 = ((x / 2 ^ i % 2 : Nat) : Int) := rfl
  rw [e]
  rcases Nat.mod_two_eq_zero_or_one (x / 2 ^ i) with h | h <;> rw [h] <;> rfl

theorem gg_grIn_run (x i : Nat) (hx : x < 2 ^ 16) (w : World) : Calls Try.prog 81 #[.int .i64 (x : Int), .int .i64 (i : Int)] w fun e w' => e = .returned (.bool (x.testBit i)) ∧ Drawn0 w w' :=
  spec_grIn.calls _ _ _ w (gg_grIn_f x i (by omega))

set_option maxRecDepth 100000 in
set_option maxHeartbeats 1000000 in
theorem gg_grGood_loop (ad : Addr) (c0_0 : Nat) (m : List Nat) (a0_1 : Bool) (w : World) (h : (1 ≤ ((zs m).length : Int) ∧ ((zs m).length : Int) ≤ 16)) (hr0_0 : Kd.C (Kd.int .i64) w (some ad) (zs m).length (zs m)) (hc0_0 : (zs m).length ≤ c0_0)
    (hx : ∀ x ∈ (zs m), 0 ≤ x ∧ x ≤ ((2 ^ (zs m).length - 1 : Nat) : Int)) (hm : ∀ i, nth m i < 2 ^ 16) (r : Bool) (hr : r = true ↔ ∀ i, i < m.length → rowOk m i) :
    Calls Try.prog 62 #[.agg #[.slice (some ad) (zs m).length c0_0, .bool a0_1]] w fun e w' => e = .returned (.bool r) ∧ Below w.heap.size w w' := by
  have hu24 := Try.underlying28
  have hs : ∀ w, Calls Try.prog 57 #[.int .i64 ((zs m).length : Int)] w fun e w' => e = .returned (.bool true) ∧ Drawn0 w w' := by
    intro w
    have := gg_grSize_run (zs m).length w
    rwa [decide_eq_true h] at this
  obtain ⟨h1, h2⟩ := h
  have hA : ∀ q, Calls Try.prog 58 #[.slice (some ad) (zs m).length c0_0, .int .i64 0, .int .i64 (wrap64 (wrap64 (2 ^ (zs m).length) - 1))] ((w.alloc (.cells #[.slice (some ad) (zs m).length c0_0, .bool a0_1] 28)).drewN q) fun e w' => e = .returned (.bool true) ∧ Drawn0 ((w.alloc (.cells #[.slice (some ad) (zs m).length c0_0, .bool a0_1] 28)).drewN q) w' := by
    intro q
    have h16 : (zs m).length ≤ 16 := by omega
    have hC := Kd.C_drewN (Kd.C_alloc hr0_0 (.cells #[.slice (some ad) (zs m).length c0_0, .bool a0_1] 28)) q
    have := gg_l1All_run (some ad) c0_0 (zs m) _ h16 hC hc0_0
    rwa [decide_eq_true hx] at this
  have HC := Aside0.mk hr0_0
  have HR := Aside0.mk hr
  have HL := Aside0.mk (zs_length m)
  clear hx hr0_0 hr
  generalize hn : (zs m).length = n at *
  clear hn
  go_enter Try.func62, Try.ntmps62
  go_wp2_with fail
  go_quiet ((first | (go_at_call 57; exact (hs _).mono fun _ _ ⟨he, hd⟩ => ⟨he, gg_quiet hd⟩) | (go_at_call 58; exact (hA _).mono fun _ _ ⟨he, hd⟩ => ⟨he, gg_quiet hd⟩)))
  clear hs hA
  go_wp2
  have HB0 := Aside0.mk (pw_below_drewN (below_alloc (Below.refl w.heap.size w) (.cells #[.slice (some ad) n c0_0, .bool a0_1] 28)) nq)
  have HX0 : ((w.alloc (Obj.cells #[Value.slice (some ad) n c0_0, Value.bool a0_1] 28)).drewN nq).cell? ⟨w.heap.size, 0, none⟩ = some (.slice (some ad) n c0_0) := by simp
  have HX := Aside0.mk HX0
  clear HX0
  generalize (w.alloc (Obj.cells #[Value.slice (some ad) n c0_0, Value.bool a0_1] 28)).drewN nq = W at HB0 HX ⊢
  go_loopw [25] (fun s wr => ∃ i : Nat, i ≤ n ∧ s = .int .i64 i ∧ Aside0 (∀ i', i' < i → rowOk m i') ∧ Drawn0 W wr) (fun s _ => n - (intOf s).toNat)
  case atStart => exact ⟨0, Nat.zero_le _, rfl, ⟨fun i' h => absurd h (Nat.not_lt_zero _)⟩, Drawn0.refl _⟩
  case round =>
    obtain ⟨i, hi, rfl, HI, HD⟩ := hrel
    have HB := Aside0.mk (below_then HB0.out HB0.out.size HD.below)
    by_cases hlt : i < n
    · obtain ⟨_, e1, hci⟩ := Kd.at_int (Kd.C_below HC.out HB.out) (i : Int) (by omega) (by omega)
      cases e1
      rw [rd_nth, Int.toNat_natCast] at hci
      have hbx : wr.cell? ⟨w.heap.size, 0, none⟩ = some (.slice (some ad) n c0_0) := by
        obtain ⟨q, rfl⟩ := HD
        simpa using HX.out
      go_wp2
      go_loopw [33] (fun s wr2 => ∃ j : Nat, j ≤ n ∧ s = .int .i64 j ∧ Aside0 (∀ j', j' < j → (nth m i).testBit j' = true → i ≠ j' ∧ (nth m j').testBit i = true) ∧ Drawn0 wr wr2) (fun s _ => n - (intOf s).toNat)
      case atStart => exact ⟨0, Nat.zero_le _, rfl, ⟨fun i' h => absurd h (Nat.not_lt_zero _)⟩, Drawn0.refl _⟩
      case round =>
        obtain ⟨j, hj, rfl, HJ, HD2⟩ := hrel
        by_cases hjt : j < n
        · have hcj := (Kd.at_int (Kd.C_below HC.out HB.out) (j : Int) (by omega) (by omega))
          rw [rd_nth, Int.toNat_natCast] at hcj
          obtain ⟨_, e1, hcj⟩ := hcj
          cases e1
          obtain ⟨q2, rfl⟩ := HD2
          have hbi := hm i
          have hbj := hm j
          cases ht : (nth m i).testBit j with
          | false =>
            have hg1 : ∀ w, Calls Try.prog 81 #[.int .i64 ((nth m i : Nat) : Int), .int .i64 (j : Int)] w fun e w' => e = .returned (.bool false) ∧ Drawn0 w w' := fun w => by
              have := gg_grIn_run (nth m i) j hbi w
              rwa [ht] at this
            go_wp2_with (go_at_call 81; refine (hg1 _).mono ?_; rintro e w' ⟨rfl, ⟨q3, rfl⟩⟩)
            go_roundw
            case rel => exact ⟨j + 1, by omega, by go_num, ⟨fun j' hj' t => by
              by_cases e : j' = j
              · subst e; rw [ht] at t; cases t
              · exact HJ.out j' (by omega) t⟩, ⟨⟨_, rfl⟩⟩⟩
            case measure => simp [intOf]; omega
          | true =>
            have hg1 : ∀ w, Calls Try.prog 81 #[.int .i64 ((nth m i : Nat) : Int), .int .i64 (j : Int)] w fun e w' => e = .returned (.bool true) ∧ Drawn0 w w' := fun w => by
              have := gg_grIn_run (nth m i) j hbi w
              rwa [ht] at this
            by_cases he : i = j
            · have he1 : ((i : Int) == (j : Int)) = true := by rw [beq_iff_eq]; omega
              have HF : Aside0 (r = false) := ⟨by
                cases hr : r with
                | false => rfl
                | true => exact absurd he (HR.out.1 hr i (by have := HL.out; omega) j (by have := HL.out; omega) ht).1⟩
              clear he
              go_wp2_with (go_at_call 81; refine (hg1 _).mono ?_; rintro e w' ⟨rfl, ⟨q3, rfl⟩⟩)
              go_ret
              exact ⟨by rw [HF.out]; rfl, pw_below_drewN HB.out _⟩
            · have he1 : ((i : Int) == (j : Int)) = false := by rw [beq_eq_false_iff_ne]; omega
              cases ht2 : (nth m j).testBit i with
              | false =>
                have hg2 : ∀ w, Calls Try.prog 81 #[.int .i64 ((nth m j : Nat) : Int), .int .i64 (i : Int)] w fun e w' => e = .returned (.bool false) ∧ Drawn0 w w' := fun w => by
                  have := gg_grIn_run (nth m j) i hbj w
                  rwa [ht2] at this
                have HF : Aside0 (r = false) := ⟨by
                  cases hr : r with
                  | false => rfl
                  | true =>
                    have := (HR.out.1 hr i (by have := HL.out; omega) j (by have := HL.out; omega) ht).2
                    rw [ht2] at this; cases this⟩
                go_wp2_with fail
                refine (hg1 _).mono ?_
                rintro e w' ⟨rfl, ⟨q3, rfl⟩⟩
                go_wp2_with fail
                refine (hg2 _).mono ?_
                rintro e w' ⟨rfl, ⟨q4, rfl⟩⟩
                go_wp2_with fail
                go_ret
                exact ⟨by rw [HF.out]; rfl, pw_below_drewN HB.out _⟩
              | true =>
                have hg2 : ∀ w, Calls Try.prog 81 #[.int .i64 ((nth m j : Nat) : Int), .int .i64 (i : Int)] w fun e w' => e = .returned (.bool true) ∧ Drawn0 w w' := fun w => by
                  have := gg_grIn_run (nth m j) i hbj w
                  rwa [ht2] at this
                go_wp2_with fail
                refine (hg1 _).mono ?_
                rintro e w' ⟨rfl, ⟨q3, rfl⟩⟩
                go_wp2_with fail
                refine (hg2 _).mono ?_
                rintro e w' ⟨rfl, ⟨q4, rfl⟩⟩
                go_wp2_with fail
                go_roundw
                case rel => exact ⟨j + 1, by omega, by go_num, ⟨fun j' hj' t => by
                  by_cases e : j' = j
                  · subst e; exact ⟨he, ht2⟩
                  · exact HJ.out j' (by omega) t⟩, ⟨⟨_, rfl⟩⟩⟩
                case measure => simp [intOf]; omega
        · obtain rfl : j = n := by omega
          obtain ⟨q2, rfl⟩ := HD2
          go_wp2
          go_roundw
          case rel => exact ⟨i + 1, by omega, by go_num, ⟨fun i' hi' => by
            by_cases e : i' = i
            · subst e; exact fun j' hj' t => HJ.out j' (by have := HL.out; omega) t
            · exact HI.out i' (by omega)⟩, HD.step _⟩
          case measure => simp [intOf]; omega
    · obtain rfl : i = n := by omega
      have HT : Aside0 (r = true) := ⟨HR.out.2 fun i' hi' => HI.out i' (by have := HL.out; omega)⟩
      go_wp2
      go_ret
      exact ⟨by rw [HT.out]; rfl, HB.out⟩

theorem spec_grGood.calls (A0_0 : Option Addr) (c0_0 : Nat) (l0_0 : List Int) (a0_1 : Bool) (r : Bool) (w : World) (hr0_0 : Kd.C (Kd.int .i64) w A0_0 l0_0.length l0_0) (hc0_0 : l0_0.length ≤ c0_0) (h : spec_grGood.f l0_0 a0_1 = some r) :
    Calls Try.prog 62 #[.agg #[.slice A0_0 l0_0.length c0_0, .bool a0_1]] w fun e w' => e = .returned (.bool r) ∧ Below w.heap.size w w' := by
  obtain rfl : goodB l0_0 = r := Option.some.inj h
  have hg := goodB_iff l0_0
  by_cases h1 : 1 ≤ (l0_0.length : Int) ∧ (l0_0.length : Int) ≤ 16
  · by_cases h2 : ∀ x ∈ l0_0, 0 ≤ x ∧ x ≤ ((2 ^ l0_0.length - 1 : Nat) : Int)
    · obtain ⟨ad, rfl, _⟩ := Kd.at_int hr0_0 0 (by omega) (by omega)
      have hz := zs_of fun x hx => (h2 x hx).1
      have hm : ∀ i, nth (l0_0.map Int.toNat) i < 2 ^ 16 := fun i => Nat.lt_of_lt_of_le (map_nth l0_0 h2 i) (Nat.pow_le_pow_right (by decide) (by omega))
      have hlen : (l0_0.map Int.toNat).length = l0_0.length := List.length_map ..
      generalize goodB l0_0 = r at hg ⊢
      generalize l0_0.map Int.toNat = m at hz hm hlen hg
      subst hz
      refine gg_grGood_loop ad c0_0 m a0_1 w h1 hr0_0 hc0_0 h2 hm r ?_
      rw [hg]
      exact ⟨fun h i hi => h.2.2 i (by omega), fun h => ⟨by omega, h2, fun i hi => h i (by omega)⟩⟩
    · have hF : goodB l0_0 = false := Bool.eq_false_iff.2 fun e => h2 (hg.1 e).2.1
      rw [hF]
      exact gg_grGood_range A0_0 c0_0 l0_0 a0_1 w h1 hr0_0 hc0_0 h2
  · have hF : goodB l0_0 = false := Bool.eq_false_iff.2 fun e => h1 (by have := (hg.1 e).1; omega)
    rw [hF]
    exact gg_grGood_size A0_0 c0_0 l0_0 a0_1 w h1
end

end Go.Proofs.Ythjbccbaobkobaa.PFnExactFarthestBoard
