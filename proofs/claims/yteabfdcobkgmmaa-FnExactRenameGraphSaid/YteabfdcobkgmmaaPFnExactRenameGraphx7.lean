-- WRITTEN BY xprint.py, a program of this session, which runs the kit's print over functions with given contracts
import Derived.Test.YteabfdcobkgmmaaPFnExactRenameGraphx0
import Derived.Test.YteabfdcobkgmmaaPFnExactRenameGraphx1
import Derived.Test.YteabfdcobkgmmaaPFnExactRenameGraphx4
import Derived.Test.YteabfdcobkgmmaaPFnExactRenameGraphx6
namespace Go.Proofs.Yteabfdcobkgmmaa.PFnExactRenameGraph
open Go.RowKit Go.Proofs.YteabfdcobkgmmaaW.PrintWords Go.Proofs.YteabfdcobkgmmaaW.PrintLast Go.Proofs.YteabfdcobkgmmaaW.PrintMore
attribute [local go_sem] max2_int min2_int max_two min_two max_three min_three max_four min_four   -- for this text's walks alone
set_option linter.unusedVariables false
set_option linter.unusedSimpArgs false

/-! ### laws_FnExactRenameGraph: function 6 -/
mutual
def laws_FnExactRenameGraph.j0 : Nat → List Int → Bool → List Int → Bool → Bool → List Int → Bool → List Int → Bool → List Int → Bool → List Int → Bool → Option (Bool)
  | 0, _, _, _, _, _, _, _, _, _, _, _, _, _ => none
  | k + 1, x1, x7, x9, x11, x51, x201000, x201001, x215000, x215001, x220000, x220001, x229000, x229001 => if x51 = true then (some false) else ((laws_toGraph.f k x201000 x201001).bind fun bt230 => ((laws_eqGraph.f k x220000 x220001 bt230.1 bt230.2).bind fun t234 => (if t234 = true then ((laws_toIntS.f k x1).bind fun t235 => ((laws_eqIntS.f k x9 t235).bind fun t238 => (if t238 = true then ((laws_markGraph.f k x220000 x220001 1).bind fun bt239 => ((laws_markIntS.f k x9 bt239.1).bind fun bt241 => (if bt241.1 < 0 then (laws_FnExactRenameGraph.j1 k x1 x7 true x201000 x201001 x215000 x215001 x229000 x229001) else ((laws_eqGraph.f k x229000 x229001 x215000 x215001).bind fun t243 => (if t243 = true then (laws_FnExactRenameGraph.j1 k x1 x7 (x11 != x7) x201000 x201001 x215000 x215001 x229000 x229001) else (laws_FnExactRenameGraph.j1 k x1 x7 true x201000 x201001 x215000 x215001 x229000 x229001)))))) else (some false)))) else (some false))))
def laws_FnExactRenameGraph.j1 : Nat → List Int → Bool → Bool → List Int → Bool → List Int → Bool → List Int → Bool → Option (Bool)
  | 0, _, _, _, _, _, _, _, _, _ => none
  | k + 1, x1, x7, x80, x201000, x201001, x215000, x215001, x229000, x229001 => if x80 = true then (some false) else ((laws_markGraph.f k x229000 x229001 1).bind fun bt244 => ((laws_heldGraph.f k bt244.2 x229001 1).bind fun t246 => (if t246 < 0 then (some false) else (if t246 = bt244.1 then ((laws_toGraph.f k x201000 x201001).bind fun bt247 => ((laws_toIntS.f k x1).bind fun t251 => ((impl_RenameGraph.f k bt247.1 bt247.2 t251).bind fun bt254 => ((laws_eqGraph.f k bt254.1 bt254.2.1 x215000 x215001).bind fun t260 => (if t260 = true then (laws_FnExactRenameGraph.j2 k bt244.1 (bt254.2.2 != x7) bt244.2 x229001) else (laws_FnExactRenameGraph.j2 k bt244.1 true bt244.2 x229001)))))) else (some false)))))
def laws_FnExactRenameGraph.j2 : Nat → Int → Bool → List Int → Bool → Option (Bool)
  | 0, _, _, _, _ => none
  | k + 1, x13, x108, x229000, x229001 => if x108 = true then (some false) else ((laws_heldGraph.f k x229000 x229001 1).bind fun t261 => (if t261 < 0 then (some false) else (if t261 = x13 then (some true) else (some false))))
end
def laws_FnExactRenameGraph.f (k : Nat) (l0_0 : List Int) (a0_1 : Bool) (l1 : List Int) : Option (Bool) := if (l1.length : Int) > 1048576 then (some true) else ((laws_szGraph.f l0_0 a0_1 1048576).bind fun t201 => (if t201 < 0 then (some true) else ((laws_toGraph.f k l0_0 a0_1).bind fun bt202 => ((laws_toIntS.f k l1).bind fun t206 => ((spec_RenameGraph.f k bt202.1 bt202.2 t206).bind fun bt209 => ((laws_toGraph.f k l0_0 a0_1).bind fun bt215 => ((laws_toIntS.f k l1).bind fun t220 => ((impl_RenameGraph.f k bt215.1 bt215.2 t220).bind fun bt223 => ((laws_eqGraph.f k bt223.1 bt223.2.1 bt209.1 bt209.2.1).bind fun t229 => (if t229 = true then (laws_FnExactRenameGraph.j0 k l1 bt209.2.2 t220 bt223.2.2 (bt223.2.2 != bt209.2.2) l0_0 a0_1 bt209.1 bt209.2.1 bt215.1 bt215.2 bt223.1 bt223.2.1) else (laws_FnExactRenameGraph.j0 k l1 bt209.2.2 t220 bt223.2.2 true l0_0 a0_1 bt209.1 bt209.2.1 bt215.1 bt215.2 bt223.1 bt223.2.1)))))))))))
theorem laws_FnExactRenameGraph.mono_l : ∀ k, (∀ y0 y1 y2 y3 y4 y5 y6 y7 y8 y9 y10 y11 y12, LeO (laws_FnExactRenameGraph.j0 k y0 y1 y2 y3 y4 y5 y6 y7 y8 y9 y10 y11 y12) (laws_FnExactRenameGraph.j0 (k + 1) y0 y1 y2 y3 y4 y5 y6 y7 y8 y9 y10 y11 y12)) ∧ (∀ y0 y1 y2 y3 y4 y5 y6 y7 y8, LeO (laws_FnExactRenameGraph.j1 k y0 y1 y2 y3 y4 y5 y6 y7 y8) (laws_FnExactRenameGraph.j1 (k + 1) y0 y1 y2 y3 y4 y5 y6 y7 y8)) ∧ (∀ y0 y1 y2 y3, LeO (laws_FnExactRenameGraph.j2 k y0 y1 y2 y3) (laws_FnExactRenameGraph.j2 (k + 1) y0 y1 y2 y3))
  | 0 => ⟨fun _ _ _ _ _ _ _ _ _ _ _ _ _ r h => by simp [laws_FnExactRenameGraph.j0] at h, fun _ _ _ _ _ _ _ _ _ r h => by simp [laws_FnExactRenameGraph.j1] at h, fun _ _ _ _ r h => by simp [laws_FnExactRenameGraph.j2] at h⟩
  | k + 1 => by
    obtain ⟨ih0, ih1, ih2⟩ := laws_FnExactRenameGraph.mono_l k
    refine ⟨?_, ?_, ?_⟩
    · intro y0 y1 y2 y3 y4 y5 y6 y7 y8 y9 y10 y11 y12
      unfold laws_FnExactRenameGraph.j0
      repeat' first
      | (with_reducible exact ih0 _ _ _ _ _ _ _ _ _ _ _ _ _)
      | (with_reducible exact ih1 _ _ _ _ _ _ _ _ _)
      | (with_reducible exact ih2 _ _ _ _)
      | (with_reducible exact impl_RenameGraph.mono _ _ _ _)
      | (with_reducible exact laws_eqGraph.mono _ _ _ _ _)
      | (with_reducible exact laws_eqIntS.mono _ _ _)
      | (with_reducible exact laws_heldGraph.mono _ _ _ _)
      | (with_reducible exact laws_markGraph.mono _ _ _ _)
      | (with_reducible exact laws_markIntS.mono _ _ _)
      | (with_reducible exact laws_toGraph.mono _ _ _)
      | (with_reducible exact laws_toIntS.mono _ _)
      | (with_reducible exact spec_RenameGraph.mono _ _ _ _)
      | (with_reducible exact LeO.refl _)
      | (with_reducible exact LeO.none _)
      | (with_reducible refine LeO.ite ?_ ?_)
      | (with_reducible refine LeO.bind ?_ (fun _ => ?_))
      | exact ih0 _ _ _ _ _ _ _ _ _ _ _ _ _
      | exact ih1 _ _ _ _ _ _ _ _ _
      | exact ih2 _ _ _ _
      | exact impl_RenameGraph.mono _ _ _ _
      | exact laws_eqGraph.mono _ _ _ _ _
      | exact laws_eqIntS.mono _ _ _
      | exact laws_heldGraph.mono _ _ _ _
      | exact laws_markGraph.mono _ _ _ _
      | exact laws_markIntS.mono _ _ _
      | exact laws_toGraph.mono _ _ _
      | exact laws_toIntS.mono _ _
      | exact spec_RenameGraph.mono _ _ _ _
      | exact LeO.none _
      | refine LeO.ite ?_ ?_
      | refine LeO.bind ?_ (fun _ => ?_)
    · intro y0 y1 y2 y3 y4 y5 y6 y7 y8
      unfold laws_FnExactRenameGraph.j1
      repeat' first
      | (with_reducible exact ih0 _ _ _ _ _ _ _ _ _ _ _ _ _)
      | (with_reducible exact ih1 _ _ _ _ _ _ _ _ _)
      | (with_reducible exact ih2 _ _ _ _)
      | (with_reducible exact impl_RenameGraph.mono _ _ _ _)
      | (with_reducible exact laws_eqGraph.mono _ _ _ _ _)
      | (with_reducible exact laws_eqIntS.mono _ _ _)
      | (with_reducible exact laws_heldGraph.mono _ _ _ _)
      | (with_reducible exact laws_markGraph.mono _ _ _ _)
      | (with_reducible exact laws_markIntS.mono _ _ _)
      | (with_reducible exact laws_toGraph.mono _ _ _)
      | (with_reducible exact laws_toIntS.mono _ _)
      | (with_reducible exact spec_RenameGraph.mono _ _ _ _)
      | (with_reducible exact LeO.refl _)
      | (with_reducible exact LeO.none _)
      | (with_reducible refine LeO.ite ?_ ?_)
      | (with_reducible refine LeO.bind ?_ (fun _ => ?_))
      | exact ih0 _ _ _ _ _ _ _ _ _ _ _ _ _
      | exact ih1 _ _ _ _ _ _ _ _ _
      | exact ih2 _ _ _ _
      | exact impl_RenameGraph.mono _ _ _ _
      | exact laws_eqGraph.mono _ _ _ _ _
      | exact laws_eqIntS.mono _ _ _
      | exact laws_heldGraph.mono _ _ _ _
      | exact laws_markGraph.mono _ _ _ _
      | exact laws_markIntS.mono _ _ _
      | exact laws_toGraph.mono _ _ _
      | exact laws_toIntS.mono _ _
      | exact spec_RenameGraph.mono _ _ _ _
      | exact LeO.none _
      | refine LeO.ite ?_ ?_
      | refine LeO.bind ?_ (fun _ => ?_)
    · intro y0 y1 y2 y3
      unfold laws_FnExactRenameGraph.j2
      repeat' first
      | (with_reducible exact ih0 _ _ _ _ _ _ _ _ _ _ _ _ _)
      | (with_reducible exact ih1 _ _ _ _ _ _ _ _ _)
      | (with_reducible exact ih2 _ _ _ _)
      | (with_reducible exact impl_RenameGraph.mono _ _ _ _)
      | (with_reducible exact laws_eqGraph.mono _ _ _ _ _)
      | (with_reducible exact laws_eqIntS.mono _ _ _)
      | (with_reducible exact laws_heldGraph.mono _ _ _ _)
      | (with_reducible exact laws_markGraph.mono _ _ _ _)
      | (with_reducible exact laws_markIntS.mono _ _ _)
      | (with_reducible exact laws_toGraph.mono _ _ _)
      | (with_reducible exact laws_toIntS.mono _ _)
      | (with_reducible exact spec_RenameGraph.mono _ _ _ _)
      | (with_reducible exact LeO.refl _)
      | (with_reducible exact LeO.none _)
      | (with_reducible refine LeO.ite ?_ ?_)
      | (with_reducible refine LeO.bind ?_ (fun _ => ?_))
      | exact ih0 _ _ _ _ _ _ _ _ _ _ _ _ _
      | exact ih1 _ _ _ _ _ _ _ _ _
      | exact ih2 _ _ _ _
      | exact impl_RenameGraph.mono _ _ _ _
      | exact laws_eqGraph.mono _ _ _ _ _
      | exact laws_eqIntS.mono _ _ _
      | exact laws_heldGraph.mono _ _ _ _
      | exact laws_markGraph.mono _ _ _ _
      | exact laws_markIntS.mono _ _ _
      | exact laws_toGraph.mono _ _ _
      | exact laws_toIntS.mono _ _
      | exact spec_RenameGraph.mono _ _ _ _
      | exact LeO.none _
      | refine LeO.ite ?_ ?_
      | refine LeO.bind ?_ (fun _ => ?_)
theorem laws_FnExactRenameGraph.mono : ∀ a0 a1 a2 k, LeO (laws_FnExactRenameGraph.f k a0 a1 a2) (laws_FnExactRenameGraph.f (k + 1) a0 a1 a2) := by
  intro a0 a1 a2 k
  obtain ⟨ih0, ih1, ih2⟩ := laws_FnExactRenameGraph.mono_l k
  unfold laws_FnExactRenameGraph.f
  repeat' first
      | (with_reducible exact ih0 _ _ _ _ _ _ _ _ _ _ _ _ _)
      | (with_reducible exact ih1 _ _ _ _ _ _ _ _ _)
      | (with_reducible exact ih2 _ _ _ _)
      | (with_reducible exact impl_RenameGraph.mono _ _ _ _)
      | (with_reducible exact laws_eqGraph.mono _ _ _ _ _)
      | (with_reducible exact laws_eqIntS.mono _ _ _)
      | (with_reducible exact laws_heldGraph.mono _ _ _ _)
      | (with_reducible exact laws_markGraph.mono _ _ _ _)
      | (with_reducible exact laws_markIntS.mono _ _ _)
      | (with_reducible exact laws_toGraph.mono _ _ _)
      | (with_reducible exact laws_toIntS.mono _ _)
      | (with_reducible exact spec_RenameGraph.mono _ _ _ _)
      | (with_reducible exact LeO.refl _)
      | (with_reducible exact LeO.none _)
      | (with_reducible refine LeO.ite ?_ ?_)
      | (with_reducible refine LeO.bind ?_ (fun _ => ?_))
      | exact ih0 _ _ _ _ _ _ _ _ _ _ _ _ _
      | exact ih1 _ _ _ _ _ _ _ _ _
      | exact ih2 _ _ _ _
      | exact impl_RenameGraph.mono _ _ _ _
      | exact laws_eqGraph.mono _ _ _ _ _
      | exact laws_eqIntS.mono _ _ _
      | exact laws_heldGraph.mono _ _ _ _
      | exact laws_markGraph.mono _ _ _ _
      | exact laws_markIntS.mono _ _ _
      | exact laws_toGraph.mono _ _ _
      | exact laws_toIntS.mono _ _
      | exact spec_RenameGraph.mono _ _ _ _
      | exact LeO.none _
      | refine LeO.ite ?_ ?_
      | refine LeO.bind ?_ (fun _ => ?_)
set_option maxHeartbeats 8000000 in
set_option maxRecDepth 100000 in
theorem laws_FnExactRenameGraph.calls (k : Nat) (A0_0 : Option Addr) (c0_0 : Nat) (l0_0 : List Int) (a0_1 : Bool) (A1 : Option Addr) (c1 : Nat) (l1 : List Int) (r : Bool) (w : World) (hr0_0 : Kd.C (Kd.int .i64) w A0_0 l0_0.length l0_0) (hc0_0 : l0_0.length ≤ c0_0) (hr1 : Kd.C (Kd.int .i64) w A1 l1.length l1) (hc1 : l1.length ≤ c1) (h : laws_FnExactRenameGraph.f k l0_0 a0_1 l1 = some r) :
    Calls Try.prog 6 #[.agg #[.slice A0_0 l0_0.length c0_0, .bool a0_1], .slice A1 l1.length c1] w fun e w' => e = .returned (.bool r) ∧ Below w.heap.size w w' := by
  have hu24 := Try.underlying24
  have hu26 := Try.underlying26
  have HR0_0 := Aside0.mk hr0_0
  have HC0_0 := Aside0.mk hc0_0
  clear hr0_0 hc0_0
  have HR1 := Aside0.mk hr1
  have HC1 := Aside0.mk hc1
  clear hr1 hc1
  have HB := Aside0.mk (Below.refl w.heap.size w)
  have H : (if (l1.length : Int) > 1048576 then (some true) else ((laws_szGraph.f l0_0 a0_1 1048576).bind fun t201 => (if t201 < 0 then (some true) else ((laws_toGraph.f k l0_0 a0_1).bind fun bt202 => ((laws_toIntS.f k l1).bind fun t206 => ((spec_RenameGraph.f k bt202.1 bt202.2 t206).bind fun bt209 => ((laws_toGraph.f k l0_0 a0_1).bind fun bt215 => ((laws_toIntS.f k l1).bind fun t220 => ((impl_RenameGraph.f k bt215.1 bt215.2 t220).bind fun bt223 => ((laws_eqGraph.f k bt223.1 bt223.2.1 bt209.1 bt209.2.1).bind fun t229 => (if t229 = true then (laws_FnExactRenameGraph.j0 k l1 bt209.2.2 t220 bt223.2.2 (bt223.2.2 != bt209.2.2) l0_0 a0_1 bt209.1 bt209.2.1 bt215.1 bt215.2 bt223.1 bt223.2.1) else (laws_FnExactRenameGraph.j0 k l1 bt209.2.2 t220 bt223.2.2 true l0_0 a0_1 bt209.1 bt209.2.1 bt215.1 bt215.2 bt223.1 bt223.2.1)))))))))))) = some r := h
  clear h
  by_cases c3 : (l1.length : Int) > 1048576
  · rw [if_pos c3] at H
    have c3b0 : decide (1048576 < (l1.length : Int)) = true := decide_eq_true c3
    have c3b1 : decide (1048576 < l1.length) = true := decide_eq_true (by omega)
    clear c3
    obtain rfl := Option.some.inj H
    go_enter Try.func6, Try.ntmps6
    go_wp2_with (first | ((with_reducible refine gate_dst (N := 2) rfl ?_); refine box_event ?hg (N := 2) ?hd (cs := #[.slice A0_0 l0_0.length c0_0, .bool a0_1]) (t := 24) ?hr ?_; (case hd => rfl); (case hg => rfl); (case hr => first | (go_simp; done) | (go_simp; rfl)); intro gb200 hg w4 hbox hb; have n0_ := Aside0.mk (below_step (by repeat (first | (with_reducible first | exact HB.out | apply below_alloc | apply pw_below_drewN | apply below_drew1) | exact HB.out)) hb); have n1_ := Aside0.mk (hbox); have n2_ := Aside0.mk ((by rw [hg]; exact (below_size (by repeat (first | (with_reducible first | exact HB.out | apply below_alloc | apply pw_below_drewN | apply below_drew1) | exact HB.out))) : w.heap.size ≤ gb200)); have n3_ := Aside0.mk ((by rw [hg]; exact (below_size (by repeat (first | (with_reducible first | exact HB.out | apply below_alloc | apply pw_below_drewN | apply below_drew1) | exact HB.out))) : w.heap.size ≤ gb200)); clear HB; have HB := n0_; have BK200 := n1_; have GW200 := n2_; have GE200 := n3_; clear n0_ n1_ n2_ n3_; clear hb hbox hg))
    go_ret
    exact ⟨by first | rfl | (simp [errW_none, errW_some] <;> rfl) | (simp [*, errW_none, errW_some] <;> rfl), by repeat (first | (with_reducible first | exact HB.out | apply below_alloc | apply pw_below_drewN | apply below_drew1 | refine below_set ?_ GE200.out) | exact HB.out)⟩
  · rw [if_neg c3] at H
    have c3b0 : decide (1048576 < (l1.length : Int)) = false := decide_eq_false c3
    have c3b1 : decide (1048576 < l1.length) = false := decide_eq_false (by omega)
    clear c3
    replace H := Option.bind_eq_some_iff.mp H
    obtain ⟨t201, A50, H⟩ := H
    replace H : (if t201 < 0 then (some true) else ((laws_toGraph.f k l0_0 a0_1).bind fun bt202 => ((laws_toIntS.f k l1).bind fun t206 => ((spec_RenameGraph.f k bt202.1 bt202.2 t206).bind fun bt209 => ((laws_toGraph.f k l0_0 a0_1).bind fun bt215 => ((laws_toIntS.f k l1).bind fun t220 => ((impl_RenameGraph.f k bt215.1 bt215.2 t220).bind fun bt223 => ((laws_eqGraph.f k bt223.1 bt223.2.1 bt209.1 bt209.2.1).bind fun t229 => (if t229 = true then (laws_FnExactRenameGraph.j0 k l1 bt209.2.2 t220 bt223.2.2 (bt223.2.2 != bt209.2.2) l0_0 a0_1 bt209.1 bt209.2.1 bt215.1 bt215.2 bt223.1 bt223.2.1) else (laws_FnExactRenameGraph.j0 k l1 bt209.2.2 t220 bt223.2.2 true l0_0 a0_1 bt209.1 bt209.2.1 bt215.1 bt215.2 bt223.1 bt223.2.1)))))))))) = some r := H
    have A5 := Aside0.mk A50
    clear A50
    by_cases c6 : t201 < 0
    · rw [if_pos c6] at H
      have c6b0 : decide (t201 < 0) = true := decide_eq_true c6
      clear c6
      obtain rfl := Option.some.inj H
      go_enter Try.func6, Try.ntmps6
      go_wp2_with (first | ((with_reducible refine gate_dst (N := 2) rfl ?_); refine box_event ?hg (N := 2) ?hd (cs := #[.slice A0_0 l0_0.length c0_0, .bool a0_1]) (t := 24) ?hr ?_; (case hd => rfl); (case hg => rfl); (case hr => first | (go_simp; done) | (go_simp; rfl)); intro gb200 hg w7 hbox hb; have n0_ := Aside0.mk (below_step (by repeat (first | (with_reducible first | exact HB.out | apply below_alloc | apply pw_below_drewN | apply below_drew1) | exact HB.out)) hb); have n1_ := Aside0.mk (hbox); have n2_ := Aside0.mk ((by rw [hg]; exact (below_size (by repeat (first | (with_reducible first | exact HB.out | apply below_alloc | apply pw_below_drewN | apply below_drew1) | exact HB.out))) : w.heap.size ≤ gb200)); have n3_ := Aside0.mk ((by rw [hg]; exact (below_size (by repeat (first | (with_reducible first | exact HB.out | apply below_alloc | apply pw_below_drewN | apply below_drew1) | exact HB.out))) : w.heap.size ≤ gb200)); clear HB; have HB := n0_; have BK200 := n1_; have GW200 := n2_; have GE200 := n3_; clear n0_ n1_ n2_ n3_; clear hb hbox hg; have hcz8_0 : w7.cell? ⟨gb200, 0, none⟩ = some (.slice A0_0 l0_0.length c0_0) := (blk_cell BK200.out 0).trans rfl; have hcz8_1 : w7.cell? ⟨gb200, 1, none⟩ = some (.bool a0_1) := (blk_cell BK200.out 1).trans rfl; have hfz8_0 := blk_frozen BK200.out 0; have hfz8_1 := blk_frozen BK200.out 1) | ((with_reducible refine gate_callee (f := 7) rfl ?_); refine goesL_ (some 22) rfl rfl Try.func7 (by kernel_rfl) rfl #[.agg #[.slice A0_0 l0_0.length c0_0, .bool a0_1], .int .i64 1048576] rfl (by (try simp only [List.map_toArray, List.map_cons, List.map_nil]); first | done | rfl | (simp only [List.length_drop, List.length_take]; rfl)) ?_; (with_reducible refine (laws_szGraph.calls _ _ l0_0 a0_1 1048576 t201 _ ?side1 ?side2 A5.out).mono ?_); (case side1 => repeat (first | exact (Kd.C_below HR0_0.out HB.out) | (with_reducible refine Kd.C_alloc ?_ _) | (with_reducible refine Kd.C_drewN ?_ _) | (with_reducible refine Kd.C_drew ?_))); (case side2 => exact HC0_0.out); rintro e w9 ⟨rfl, hb⟩; refine ⟨_, rfl, ?_⟩; have n0_ := Aside0.mk (blk_below (g := gb200) (o := .cells #[.slice A0_0 l0_0.length c0_0, .bool a0_1] 24 (0, 0)) (by (with_reducible repeat (first | refine blk_drewN ?_ _ | refine blk_drew ?_ | refine blk_alloc ?_ _)); exact BK200.out) hb); have n1_ := Aside0.mk (below_step (by repeat (first | (with_reducible first | exact HB.out | apply below_alloc | apply pw_below_drewN | apply below_drew1 | refine below_set ?_ GE200.out) | exact HB.out)) hb); clear BK200; clear HB; have BK200 := n0_; have HB := n1_; clear n0_ n1_; (try clear hb); (try clear hb2); (try clear hk); (try clear hi)))
      go_ret
      exact ⟨by first | rfl | (simp [errW_none, errW_some] <;> rfl) | (simp [*, errW_none, errW_some] <;> rfl), by repeat (first | (with_reducible first | exact HB.out | apply below_alloc | apply pw_below_drewN | apply below_drew1 | refine below_set ?_ GE200.out) | exact HB.out)⟩
    · rw [if_neg c6] at H
      have c6b0 : decide (t201 < 0) = false := decide_eq_false c6
      clear c6
      replace H := Option.bind_eq_some_iff.mp H
      obtain ⟨⟨t202, t205⟩, A100, H⟩ := H
      replace H : ((laws_toIntS.f k l1).bind fun t206 => ((spec_RenameGraph.f k t202 t205 t206).bind fun bt209 => ((laws_toGraph.f k l0_0 a0_1).bind fun bt215 => ((laws_toIntS.f k l1).bind fun t220 => ((impl_RenameGraph.f k bt215.1 bt215.2 t220).bind fun bt223 => ((laws_eqGraph.f k bt223.1 bt223.2.1 bt209.1 bt209.2.1).bind fun t229 => (if t229 = true then (laws_FnExactRenameGraph.j0 k l1 bt209.2.2 t220 bt223.2.2 (bt223.2.2 != bt209.2.2) l0_0 a0_1 bt209.1 bt209.2.1 bt215.1 bt215.2 bt223.1 bt223.2.1) else (laws_FnExactRenameGraph.j0 k l1 bt209.2.2 t220 bt223.2.2 true l0_0 a0_1 bt209.1 bt209.2.1 bt215.1 bt215.2 bt223.1 bt223.2.1)))))))) = some r := H
      have A10 := Aside0.mk A100
      clear A100
      replace H := Option.bind_eq_some_iff.mp H
      obtain ⟨t206, A110, H⟩ := H
      replace H : ((spec_RenameGraph.f k t202 t205 t206).bind fun bt209 => ((laws_toGraph.f k l0_0 a0_1).bind fun bt215 => ((laws_toIntS.f k l1).bind fun t220 => ((impl_RenameGraph.f k bt215.1 bt215.2 t220).bind fun bt223 => ((laws_eqGraph.f k bt223.1 bt223.2.1 bt209.1 bt209.2.1).bind fun t229 => (if t229 = true then (laws_FnExactRenameGraph.j0 k l1 bt209.2.2 t220 bt223.2.2 (bt223.2.2 != bt209.2.2) l0_0 a0_1 bt209.1 bt209.2.1 bt215.1 bt215.2 bt223.1 bt223.2.1) else (laws_FnExactRenameGraph.j0 k l1 bt209.2.2 t220 bt223.2.2 true l0_0 a0_1 bt209.1 bt209.2.1 bt215.1 bt215.2 bt223.1 bt223.2.1))))))) = some r := H
      have A11 := Aside0.mk A110
      clear A110
      replace H := Option.bind_eq_some_iff.mp H
      obtain ⟨⟨t209, t212, t213⟩, A120, H⟩ := H
      replace H : ((laws_toGraph.f k l0_0 a0_1).bind fun bt215 => ((laws_toIntS.f k l1).bind fun t220 => ((impl_RenameGraph.f k bt215.1 bt215.2 t220).bind fun bt223 => ((laws_eqGraph.f k bt223.1 bt223.2.1 t209 t212).bind fun t229 => (if t229 = true then (laws_FnExactRenameGraph.j0 k l1 t213 t220 bt223.2.2 (bt223.2.2 != t213) l0_0 a0_1 t209 t212 bt215.1 bt215.2 bt223.1 bt223.2.1) else (laws_FnExactRenameGraph.j0 k l1 t213 t220 bt223.2.2 true l0_0 a0_1 t209 t212 bt215.1 bt215.2 bt223.1 bt223.2.1)))))) = some r := H
      have A12 := Aside0.mk A120
      clear A120
      replace H := Option.bind_eq_some_iff.mp H
      obtain ⟨⟨t215, t218⟩, A130, H⟩ := H
      replace H : ((laws_toIntS.f k l1).bind fun t220 => ((impl_RenameGraph.f k t215 t218 t220).bind fun bt223 => ((laws_eqGraph.f k bt223.1 bt223.2.1 t209 t212).bind fun t229 => (if t229 = true then (laws_FnExactRenameGraph.j0 k l1 t213 t220 bt223.2.2 (bt223.2.2 != t213) l0_0 a0_1 t209 t212 t215 t218 bt223.1 bt223.2.1) else (laws_FnExactRenameGraph.j0 k l1 t213 t220 bt223.2.2 true l0_0 a0_1 t209 t212 t215 t218 bt223.1 bt223.2.1))))) = some r := H
      have A13 := Aside0.mk A130
      clear A130
      replace H := Option.bind_eq_some_iff.mp H
      obtain ⟨t220, A140, H⟩ := H
      replace H : ((impl_RenameGraph.f k t215 t218 t220).bind fun bt223 => ((laws_eqGraph.f k bt223.1 bt223.2.1 t209 t212).bind fun t229 => (if t229 = true then (laws_FnExactRenameGraph.j0 k l1 t213 t220 bt223.2.2 (bt223.2.2 != t213) l0_0 a0_1 t209 t212 t215 t218 bt223.1 bt223.2.1) else (laws_FnExactRenameGraph.j0 k l1 t213 t220 bt223.2.2 true l0_0 a0_1 t209 t212 t215 t218 bt223.1 bt223.2.1)))) = some r := H
      have A14 := Aside0.mk A140
      clear A140
      replace H := Option.bind_eq_some_iff.mp H
      obtain ⟨⟨t223, t226, t227⟩, A150, H⟩ := H
      replace H : ((laws_eqGraph.f k t223 t226 t209 t212).bind fun t229 => (if t229 = true then (laws_FnExactRenameGraph.j0 k l1 t213 t220 t227 (t227 != t213) l0_0 a0_1 t209 t212 t215 t218 t223 t226) else (laws_FnExactRenameGraph.j0 k l1 t213 t220 t227 true l0_0 a0_1 t209 t212 t215 t218 t223 t226))) = some r := H
      have A15 := Aside0.mk A150
      clear A150
      have HC16 := Aside0.mk H
      clear H
      go_enter Try.func6, Try.ntmps6
      go_upto_region 11 with (first | ((with_reducible refine gate_dst (N := 2) rfl ?_); refine box_event ?hg (N := 2) ?hd (cs := #[.slice A0_0 l0_0.length c0_0, .bool a0_1]) (t := 24) ?hr ?_; (case hd => rfl); (case hg => rfl); (case hr => first | (go_simp; done) | (go_simp; rfl)); intro gb200 hg w17 hbox hb; have n0_ := Aside0.mk (below_step (by repeat (first | (with_reducible first | exact HB.out | apply below_alloc | apply pw_below_drewN | apply below_drew1) | exact HB.out)) hb); have n1_ := Aside0.mk (hbox); have n2_ := Aside0.mk ((by rw [hg]; exact (below_size (by repeat (first | (with_reducible first | exact HB.out | apply below_alloc | apply pw_below_drewN | apply below_drew1) | exact HB.out))) : w.heap.size ≤ gb200)); have n3_ := Aside0.mk ((by rw [hg]; exact (below_size (by repeat (first | (with_reducible first | exact HB.out | apply below_alloc | apply pw_below_drewN | apply below_drew1) | exact HB.out))) : w.heap.size ≤ gb200)); clear HB; have HB := n0_; have BK200 := n1_; have GW200 := n2_; have GE200 := n3_; clear n0_ n1_ n2_ n3_; clear hb hbox hg; have hcz18_0 : w17.cell? ⟨gb200, 0, none⟩ = some (.slice A0_0 l0_0.length c0_0) := (blk_cell BK200.out 0).trans rfl; have hcz18_1 : w17.cell? ⟨gb200, 1, none⟩ = some (.bool a0_1) := (blk_cell BK200.out 1).trans rfl; have hfz18_0 := blk_frozen BK200.out 0; have hfz18_1 := blk_frozen BK200.out 1) | ((with_reducible refine gate_callee (f := 7) rfl ?_); refine goesL_ (some 22) rfl rfl Try.func7 (by kernel_rfl) rfl #[.agg #[.slice A0_0 l0_0.length c0_0, .bool a0_1], .int .i64 1048576] rfl (by (try simp only [List.map_toArray, List.map_cons, List.map_nil]); first | done | rfl | (simp only [List.length_drop, List.length_take]; rfl)) ?_; (with_reducible refine (laws_szGraph.calls _ _ l0_0 a0_1 1048576 t201 _ ?side1 ?side2 A5.out).mono ?_); (case side1 => repeat (first | exact (Kd.C_below HR0_0.out HB.out) | (with_reducible refine Kd.C_alloc ?_ _) | (with_reducible refine Kd.C_drewN ?_ _) | (with_reducible refine Kd.C_drew ?_))); (case side2 => exact HC0_0.out); rintro e w19 ⟨rfl, hb⟩; refine ⟨_, rfl, ?_⟩; have n0_ := Aside0.mk (blk_below (g := gb200) (o := .cells #[.slice A0_0 l0_0.length c0_0, .bool a0_1] 24 (0, 0)) (by (with_reducible repeat (first | refine blk_drewN ?_ _ | refine blk_drew ?_ | refine blk_alloc ?_ _)); exact BK200.out) hb); have n1_ := Aside0.mk (below_step (by repeat (first | (with_reducible first | exact HB.out | apply below_alloc | apply pw_below_drewN | apply below_drew1 | refine below_set ?_ GE200.out) | exact HB.out)) hb); clear BK200; clear HB; have BK200 := n0_; have HB := n1_; clear n0_ n1_; (try clear hb); (try clear hb2); (try clear hk); (try clear hi); have hcz20_0 : w19.cell? ⟨gb200, 0, none⟩ = some (.slice A0_0 l0_0.length c0_0) := (blk_cell BK200.out 0).trans rfl; have hcz20_1 : w19.cell? ⟨gb200, 1, none⟩ = some (.bool a0_1) := (blk_cell BK200.out 1).trans rfl; have hfz20_0 := blk_frozen BK200.out 0; have hfz20_1 := blk_frozen BK200.out 1) | ((with_reducible refine gate_callee (f := 9) rfl ?_); refine goesL_ (some 27) rfl rfl Try.func9 (by kernel_rfl) rfl #[.agg #[.slice A0_0 l0_0.length c0_0, .bool a0_1]] rfl (by (try simp only [List.map_toArray, List.map_cons, List.map_nil]); first | done | rfl | (simp only [List.length_drop, List.length_take]; rfl)) ?_; (with_reducible refine (laws_toGraph.calls k _ _ l0_0 a0_1 t202 t205 _ ?side1 ?side2 A10.out).mono ?_); (case side1 => repeat (first | exact (Kd.C_below HR0_0.out HB.out) | (with_reducible refine Kd.C_alloc ?_ _) | (with_reducible refine Kd.C_drewN ?_ _) | (with_reducible refine Kd.C_drew ?_))); (case side2 => exact HC0_0.out); rintro e w21 ⟨v203, rfl, ho0, hb⟩; refine ⟨_, rfl, ?_⟩; have n0_ := Aside0.mk (Kd.R_lower ho0 (below_size (by repeat (first | (with_reducible first | exact HB.out | apply below_alloc | apply pw_below_drewN | apply below_drew1 | refine below_set ?_ GE200.out) | exact HB.out)))); have n1_ := Aside0.mk (blk_below (g := gb200) (o := .cells #[.slice A0_0 l0_0.length c0_0, .bool a0_1] 24 (0, 0)) (by (with_reducible repeat (first | refine blk_drewN ?_ _ | refine blk_drew ?_ | refine blk_alloc ?_ _)); exact BK200.out) hb); have n2_ := Aside0.mk (below_step (by repeat (first | (with_reducible first | exact HB.out | apply below_alloc | apply pw_below_drewN | apply below_drew1 | refine below_set ?_ GE200.out) | exact HB.out)) hb); clear BK200; clear HB; have HO204 := n0_; have BK200 := n1_; have HB := n2_; clear n0_ n1_ n2_; (try clear hb); (try clear hb2); (try clear hk); (try clear hi); (try clear ho0)) | ((with_reducible refine gate_callee (f := 24) rfl ?_); refine goesL_ (some 29) rfl rfl Try.func24 (by kernel_rfl) rfl #[.slice A1 l1.length c1] rfl (by (try simp only [List.map_toArray, List.map_cons, List.map_nil]); first | done | rfl | (simp only [List.length_drop, List.length_take]; rfl)) ?_; (with_reducible refine (laws_toIntS.calls k _ _ l1 t206 _ ?side1 ?side2 A11.out).mono ?_); (case side1 => repeat (first | exact (Kd.C_below HR1.out HB.out) | (with_reducible refine Kd.C_alloc ?_ _) | (with_reducible refine Kd.C_drewN ?_ _) | (with_reducible refine Kd.C_drew ?_))); (case side2 => exact HC1.out); rintro e w22 ⟨v207, rfl, ho0, hb⟩; refine ⟨_, rfl, ?_⟩; have n0_ := Aside0.mk (Kd.R_elder' (by (with_reducible repeat (first | apply Kd.R_alloc | apply Kd.R_drewN | apply Kd.R_drew)); exact HO204.out) (Kd.R_base ho0) hb); have n1_ := Aside0.mk (Kd.R_lower (Kd.R_new' ho0 (Kd.R_lt (by (with_reducible repeat (first | apply Kd.R_alloc | apply Kd.R_drewN | apply Kd.R_drew)); exact HO204.out))) (below_size (by repeat (first | (with_reducible first | exact HB.out | apply below_alloc | apply pw_below_drewN | apply below_drew1 | refine below_set ?_ GE200.out) | exact HB.out)))); have n2_ := Aside0.mk (blk_below (g := gb200) (o := .cells #[.slice A0_0 l0_0.length c0_0, .bool a0_1] 24 (0, 0)) (by (with_reducible repeat (first | refine blk_drewN ?_ _ | refine blk_drew ?_ | refine blk_alloc ?_ _)); exact BK200.out) hb); have n3_ := Aside0.mk (below_step (by repeat (first | (with_reducible first | exact HB.out | apply below_alloc | apply pw_below_drewN | apply below_drew1 | refine below_set ?_ GE200.out) | exact HB.out)) hb); clear HO204; clear BK200; clear HB; have HO204 := n0_; have HO208 := n1_; have BK200 := n2_; have HB := n3_; clear n0_ n1_ n2_ n3_; (try clear hb); (try clear hb2); (try clear hk); (try clear hi); (try clear ho0); obtain ⟨Ao23, co23, eo23⟩ := Kd.R_slice HO204.out; subst eo23; obtain ⟨Ao24, co24, eo24⟩ := Kd.R_slice HO208.out; subst eo24) | ((with_reducible refine gate_callee (f := 23) rfl ?_); refine goesL_ (some 30) rfl rfl Try.func23 (by kernel_rfl) rfl #[.agg #[.slice Ao23 t202.length co23, .bool t205], .slice Ao24 t206.length co24] rfl (by (try simp only [List.map_toArray, List.map_cons, List.map_nil]); first | done | rfl | (simp only [List.length_drop, List.length_take]; rfl)) ?_; (with_reducible refine (spec_RenameGraph.calls k _ _ t202 t205 _ _ t206 t209 t212 t213 _ ?side1 ?side2 ?side3 ?side4 A12.out).mono ?_); (case side1 => repeat (first | exact (Kd.R_reads' HO204.out).2.2 | (with_reducible refine Kd.C_alloc ?_ _) | (with_reducible refine Kd.C_drewN ?_ _) | (with_reducible refine Kd.C_drew ?_))); (case side2 => exact (Kd.R_reads' HO204.out).2.1); (case side3 => repeat (first | exact (Kd.R_reads' HO208.out).2.2 | (with_reducible refine Kd.C_alloc ?_ _) | (with_reducible refine Kd.C_drewN ?_ _) | (with_reducible refine Kd.C_drew ?_))); (case side4 => exact (Kd.R_reads' HO208.out).2.1); rintro e w25 ⟨v210, rfl, ho0, hb⟩; refine ⟨_, rfl, ?_⟩; have n0_ := Aside0.mk (Kd.R_elder' (by (with_reducible repeat (first | apply Kd.R_alloc | apply Kd.R_drewN | apply Kd.R_drew)); exact HO204.out) (Kd.R_base ho0) hb); have n1_ := Aside0.mk (Kd.R_elder' (by (with_reducible repeat (first | apply Kd.R_alloc | apply Kd.R_drewN | apply Kd.R_drew)); exact HO208.out) (Kd.R_base ho0) hb); have n2_ := Aside0.mk (Kd.R_lower (Kd.R_new' (Kd.R_new' ho0 (Kd.R_lt (by (with_reducible repeat (first | apply Kd.R_alloc | apply Kd.R_drewN | apply Kd.R_drew)); exact HO204.out))) (Kd.R_lt (by (with_reducible repeat (first | apply Kd.R_alloc | apply Kd.R_drewN | apply Kd.R_drew)); exact HO208.out))) (below_size (by repeat (first | (with_reducible first | exact HB.out | apply below_alloc | apply pw_below_drewN | apply below_drew1 | refine below_set ?_ GE200.out) | exact HB.out)))); have n3_ := Aside0.mk (blk_below (g := gb200) (o := .cells #[.slice A0_0 l0_0.length c0_0, .bool a0_1] 24 (0, 0)) (by (with_reducible repeat (first | refine blk_drewN ?_ _ | refine blk_drew ?_ | refine blk_alloc ?_ _)); exact BK200.out) hb); have n4_ := Aside0.mk (below_step (by repeat (first | (with_reducible first | exact HB.out | apply below_alloc | apply pw_below_drewN | apply below_drew1 | refine below_set ?_ GE200.out) | exact HB.out)) hb); clear HO204; clear HO208; clear BK200; clear HB; have HO204 := n0_; have HO208 := n1_; have HO211 := n2_; have BK200 := n3_; have HB := n4_; clear n0_ n1_ n2_ n3_ n4_; (try clear hb); (try clear hb2); (try clear hk); (try clear hi); (try clear ho0)) | ((with_reducible refine gate_dst (N := 6) rfl ?_); refine box_event ?hg (N := 6) ?hd (cs := #[.slice none 0 0, .bool false]) (t := 26) ?hr ?_; (case hd => rfl); (case hg => rfl); (case hr => first | (go_simp; done) | (go_simp; rfl)); intro gb214 hg w26 hbox hb; have n0_ := Aside0.mk (Kd.R_below (by (with_reducible repeat (first | apply Kd.R_alloc | apply Kd.R_drewN | apply Kd.R_drew)); exact HO204.out) hb); have n1_ := Aside0.mk (Kd.R_below (by (with_reducible repeat (first | apply Kd.R_alloc | apply Kd.R_drewN | apply Kd.R_drew)); exact HO208.out) hb); have n2_ := Aside0.mk (Kd.R_below (by (with_reducible repeat (first | apply Kd.R_alloc | apply Kd.R_drewN | apply Kd.R_drew)); exact HO211.out) hb); have n3_ := Aside0.mk (blk_below (g := gb200) (o := .cells #[.slice A0_0 l0_0.length c0_0, .bool a0_1] 24 (0, 0)) (by (with_reducible repeat (first | refine blk_drewN ?_ _ | refine blk_drew ?_ | refine blk_alloc ?_ _)); exact BK200.out) hb); have n4_ := Aside0.mk (below_step (by repeat (first | (with_reducible first | exact HB.out | apply below_alloc | apply pw_below_drewN | apply below_drew1 | refine below_set ?_ GE200.out) | exact HB.out)) hb); have n5_ := Aside0.mk (hbox); have n6_ := Aside0.mk ((by rw [hg]; exact (below_size (by repeat (first | (with_reducible first | exact HB.out | apply below_alloc | apply pw_below_drewN | apply below_drew1 | refine below_set ?_ GE200.out) | exact HB.out))) : w.heap.size ≤ gb214)); have n7_ := Aside0.mk ((by rw [hg]; exact (below_size (by repeat (first | (with_reducible first | exact HB.out | apply below_alloc | apply pw_below_drewN | apply below_drew1 | refine below_set ?_ GE200.out) | exact HB.out))) : w.heap.size ≤ gb214)); have n8_ := Aside0.mk ((by rw [hg]; exact Nat.ne_of_lt (blk_lt (g := gb200) (o := .cells #[.slice A0_0 l0_0.length c0_0, .bool a0_1] 24 (0, 0)) (by (with_reducible repeat (first | refine blk_drewN ?_ _ | refine blk_drew ?_ | refine blk_alloc ?_ _)); exact BK200.out)) : gb200 ≠ gb214)); have n9_ := Aside0.mk ((by rw [hg]; exact Nat.ne_of_gt (blk_lt (g := gb200) (o := .cells #[.slice A0_0 l0_0.length c0_0, .bool a0_1] 24 (0, 0)) (by (with_reducible repeat (first | refine blk_drewN ?_ _ | refine blk_drew ?_ | refine blk_alloc ?_ _)); exact BK200.out)) : gb214 ≠ gb200)); clear HO204; clear HO208; clear HO211; clear BK200; clear HB; have HO204 := n0_; have HO208 := n1_; have HO211 := n2_; have BK200 := n3_; have HB := n4_; have BK214 := n5_; have GW214 := n6_; have GE214 := n7_; have NB200_214 := n8_; have NB214_200 := n9_; clear n0_ n1_ n2_ n3_ n4_ n5_ n6_ n7_ n8_ n9_; clear hb hbox hg; obtain ⟨Ao27, co27, eo27⟩ := Kd.R_slice HO211.out; subst eo27; have hnb28 := NB214_200.out; have hnc28 := NB200_214.out; have hcz29_0 : w26.cell? ⟨gb214, 0, none⟩ = some (.slice none 0 0) := (blk_cell BK214.out 0).trans rfl; have hcz29_1 : w26.cell? ⟨gb214, 1, none⟩ = some (.bool false) := (blk_cell BK214.out 1).trans rfl; have hfz29_0 := blk_frozen BK214.out 0; have hfz29_1 := blk_frozen BK214.out 1; have hcz30_0 : w26.cell? ⟨gb200, 0, none⟩ = some (.slice A0_0 l0_0.length c0_0) := (blk_cell BK200.out 0).trans rfl; have hcz30_1 : w26.cell? ⟨gb200, 1, none⟩ = some (.bool a0_1) := (blk_cell BK200.out 1).trans rfl; have hfz30_0 := blk_frozen BK200.out 0; have hfz30_1 := blk_frozen BK200.out 1) | ((with_reducible refine gate_callee (f := 9) rfl ?_); refine goesL_ (some 34) rfl rfl Try.func9 (by kernel_rfl) rfl #[.agg #[.slice A0_0 l0_0.length c0_0, .bool a0_1]] rfl (by (try simp only [List.map_toArray, List.map_cons, List.map_nil]); first | done | rfl | (simp only [List.length_drop, List.length_take]; rfl)) ?_; (with_reducible refine (laws_toGraph.calls k _ _ l0_0 a0_1 t215 t218 _ ?side1 ?side2 A13.out).mono ?_); (case side1 => exact Kd.C_below HR0_0.out (by repeat (first | (with_reducible first | exact HB.out | apply below_alloc | apply pw_below_drewN | apply below_drew1 | refine below_set ?_ GE200.out | refine below_set ?_ GE214.out) | exact HB.out))); (case side2 => exact HC0_0.out); rintro e w31 ⟨v216, rfl, ho0, hb⟩; refine ⟨_, rfl, ?_⟩; have n0_ := Aside0.mk (Kd.R_elder' (by (with_reducible repeat (first | apply Kd.R_alloc | apply Kd.R_drewN | apply Kd.R_drew)); exact (Kd.R_mono (Kd.R_far (p := ⟨gb214, 1, none⟩) (Kd.R_far (p := ⟨gb214, 0, none⟩) (Kd.R_types HO204.out BK214.out (by decide)) (fun _ hk => hk.2) (.slice Ao27 t209.length co27)) (fun _ hk => hk.2) (.bool t212)) (fun _ h_ => h_.1))) (Kd.R_base ho0) hb); have n1_ := Aside0.mk (Kd.R_elder' (by (with_reducible repeat (first | apply Kd.R_alloc | apply Kd.R_drewN | apply Kd.R_drew)); exact (Kd.R_mono (Kd.R_far (p := ⟨gb214, 1, none⟩) (Kd.R_far (p := ⟨gb214, 0, none⟩) (Kd.R_types HO208.out BK214.out (by decide)) (fun _ hk => hk.2) (.slice Ao27 t209.length co27)) (fun _ hk => hk.2) (.bool t212)) (fun _ h_ => h_.1))) (Kd.R_base ho0) hb); have n2_ := Aside0.mk (Kd.R_elder' (by (with_reducible repeat (first | apply Kd.R_alloc | apply Kd.R_drewN | apply Kd.R_drew)); exact (Kd.R_mono (Kd.R_far (p := ⟨gb214, 1, none⟩) (Kd.R_far (p := ⟨gb214, 0, none⟩) (Kd.R_types HO211.out BK214.out (by decide)) (fun _ hk => hk.2) (.slice Ao27 t209.length co27)) (fun _ hk => hk.2) (.bool t212)) (fun _ h_ => h_.1))) (Kd.R_base ho0) hb); have n3_ := Aside0.mk (Kd.R_lower (Kd.R_new' (Kd.R_new' (Kd.R_new' ho0 (Kd.R_lt (by (with_reducible repeat (first | apply Kd.R_alloc | apply Kd.R_drewN | apply Kd.R_drew)); exact (Kd.R_mono (Kd.R_far (p := ⟨gb214, 1, none⟩) (Kd.R_far (p := ⟨gb214, 0, none⟩) (Kd.R_types HO204.out BK214.out (by decide)) (fun _ hk => hk.2) (.slice Ao27 t209.length co27)) (fun _ hk => hk.2) (.bool t212)) (fun _ h_ => h_.1))))) (Kd.R_lt (by (with_reducible repeat (first | apply Kd.R_alloc | apply Kd.R_drewN | apply Kd.R_drew)); exact (Kd.R_mono (Kd.R_far (p := ⟨gb214, 1, none⟩) (Kd.R_far (p := ⟨gb214, 0, none⟩) (Kd.R_types HO208.out BK214.out (by decide)) (fun _ hk => hk.2) (.slice Ao27 t209.length co27)) (fun _ hk => hk.2) (.bool t212)) (fun _ h_ => h_.1))))) (Kd.R_lt (by (with_reducible repeat (first | apply Kd.R_alloc | apply Kd.R_drewN | apply Kd.R_drew)); exact (Kd.R_mono (Kd.R_far (p := ⟨gb214, 1, none⟩) (Kd.R_far (p := ⟨gb214, 0, none⟩) (Kd.R_types HO211.out BK214.out (by decide)) (fun _ hk => hk.2) (.slice Ao27 t209.length co27)) (fun _ hk => hk.2) (.bool t212)) (fun _ h_ => h_.1))))) (below_size (by repeat (first | (with_reducible first | exact HB.out | apply below_alloc | apply pw_below_drewN | apply below_drew1 | refine below_set ?_ GE200.out | refine below_set ?_ GE214.out) | exact HB.out)))); have n4_ := Aside0.mk (blk_below (g := gb200) (o := .cells #[.slice A0_0 l0_0.length c0_0, .bool a0_1] 24 (0, 0)) (by (with_reducible repeat (first | refine blk_drewN ?_ _ | refine blk_drew ?_ | refine blk_alloc ?_ _)); refine blk_far ?_ NB200_214.out _; (with_reducible repeat (first | refine blk_drewN ?_ _ | refine blk_drew ?_ | refine blk_alloc ?_ _)); refine blk_far ?_ NB200_214.out _; (with_reducible repeat (first | refine blk_drewN ?_ _ | refine blk_drew ?_ | refine blk_alloc ?_ _)); exact BK200.out) hb); have n5_ := Aside0.mk (blk_below (g := gb214) (o := .cells #[.slice Ao27 t209.length co27, .bool t212] 26 (0, 0)) (by (with_reducible repeat (first | refine blk_drewN ?_ _ | refine blk_drew ?_ | refine blk_alloc ?_ _)); refine blk_put (cs := #[.slice Ao27 t209.length co27, .bool false]) ?_ 1 _ rfl; (with_reducible repeat (first | refine blk_drewN ?_ _ | refine blk_drew ?_ | refine blk_alloc ?_ _)); refine blk_put (cs := #[.slice none 0 0, .bool false]) ?_ 0 _ rfl; (with_reducible repeat (first | refine blk_drewN ?_ _ | refine blk_drew ?_ | refine blk_alloc ?_ _)); exact BK214.out) hb); have n6_ := Aside0.mk (below_step (by repeat (first | (with_reducible first | exact HB.out | apply below_alloc | apply pw_below_drewN | apply below_drew1 | refine below_set ?_ GE200.out | refine below_set ?_ GE214.out) | exact HB.out)) hb); clear HO204; clear HO208; clear HO211; clear BK200; clear BK214; clear HB; have HO204 := n0_; have HO208 := n1_; have HO211 := n2_; have HO217 := n3_; have BK200 := n4_; have BK214 := n5_; have HB := n6_; clear n0_ n1_ n2_ n3_ n4_ n5_ n6_; (try clear hb); (try clear hb2); (try clear hk); (try clear hi); (try clear ho0)) | ((with_reducible refine gate_dst (N := 8) rfl ?_); refine box_event ?hg (N := 8) ?hd (cs := #[.slice none 0 0, .bool false]) (t := 26) ?hr ?_; (case hd => rfl); (case hg => rfl); (case hr => first | (go_simp; done) | (go_simp; rfl)); intro gb219 hg w32 hbox hb; have n0_ := Aside0.mk (Kd.R_below (by (with_reducible repeat (first | apply Kd.R_alloc | apply Kd.R_drewN | apply Kd.R_drew)); exact HO204.out) hb); have n1_ := Aside0.mk (Kd.R_below (by (with_reducible repeat (first | apply Kd.R_alloc | apply Kd.R_drewN | apply Kd.R_drew)); exact HO208.out) hb); have n2_ := Aside0.mk (Kd.R_below (by (with_reducible repeat (first | apply Kd.R_alloc | apply Kd.R_drewN | apply Kd.R_drew)); exact HO211.out) hb); have n3_ := Aside0.mk (Kd.R_below (by (with_reducible repeat (first | apply Kd.R_alloc | apply Kd.R_drewN | apply Kd.R_drew)); exact HO217.out) hb); have n4_ := Aside0.mk (blk_below (g := gb200) (o := .cells #[.slice A0_0 l0_0.length c0_0, .bool a0_1] 24 (0, 0)) (by (with_reducible repeat (first | refine blk_drewN ?_ _ | refine blk_drew ?_ | refine blk_alloc ?_ _)); exact BK200.out) hb); have n5_ := Aside0.mk (blk_below (g := gb214) (o := .cells #[.slice Ao27 t209.length co27, .bool t212] 26 (0, 0)) (by (with_reducible repeat (first | refine blk_drewN ?_ _ | refine blk_drew ?_ | refine blk_alloc ?_ _)); exact BK214.out) hb); have n6_ := Aside0.mk (below_step (by repeat (first | (with_reducible first | exact HB.out | apply below_alloc | apply pw_below_drewN | apply below_drew1 | refine below_set ?_ GE200.out | refine below_set ?_ GE214.out) | exact HB.out)) hb); have n7_ := Aside0.mk (hbox); have n8_ := Aside0.mk ((by rw [hg]; exact (below_size (by repeat (first | (with_reducible first | exact HB.out | apply below_alloc | apply pw_below_drewN | apply below_drew1 | refine below_set ?_ GE200.out | refine below_set ?_ GE214.out) | exact HB.out))) : w.heap.size ≤ gb219)); have n9_ := Aside0.mk ((by rw [hg]; exact (below_size (by repeat (first | (with_reducible first | exact HB.out | apply below_alloc | apply pw_below_drewN | apply below_drew1 | refine below_set ?_ GE200.out | refine below_set ?_ GE214.out) | exact HB.out))) : w.heap.size ≤ gb219)); have n10_ := Aside0.mk ((by rw [hg]; exact Nat.ne_of_lt (blk_lt (g := gb200) (o := .cells #[.slice A0_0 l0_0.length c0_0, .bool a0_1] 24 (0, 0)) (by (with_reducible repeat (first | refine blk_drewN ?_ _ | refine blk_drew ?_ | refine blk_alloc ?_ _)); exact BK200.out)) : gb200 ≠ gb219)); have n11_ := Aside0.mk ((by rw [hg]; exact Nat.ne_of_gt (blk_lt (g := gb200) (o := .cells #[.slice A0_0 l0_0.length c0_0, .bool a0_1] 24 (0, 0)) (by (with_reducible repeat (first | refine blk_drewN ?_ _ | refine blk_drew ?_ | refine blk_alloc ?_ _)); exact BK200.out)) : gb219 ≠ gb200)); have n12_ := Aside0.mk ((by rw [hg]; exact Nat.ne_of_lt (blk_lt (g := gb214) (o := .cells #[.slice Ao27 t209.length co27, .bool t212] 26 (0, 0)) (by (with_reducible repeat (first | refine blk_drewN ?_ _ | refine blk_drew ?_ | refine blk_alloc ?_ _)); exact BK214.out)) : gb214 ≠ gb219)); have n13_ := Aside0.mk ((by rw [hg]; exact Nat.ne_of_gt (blk_lt (g := gb214) (o := .cells #[.slice Ao27 t209.length co27, .bool t212] 26 (0, 0)) (by (with_reducible repeat (first | refine blk_drewN ?_ _ | refine blk_drew ?_ | refine blk_alloc ?_ _)); exact BK214.out)) : gb219 ≠ gb214)); clear HO204; clear HO208; clear HO211; clear HO217; clear BK200; clear BK214; clear HB; have HO204 := n0_; have HO208 := n1_; have HO211 := n2_; have HO217 := n3_; have BK200 := n4_; have BK214 := n5_; have HB := n6_; have BK219 := n7_; have GW219 := n8_; have GE219 := n9_; have NB200_219 := n10_; have NB219_200 := n11_; have NB214_219 := n12_; have NB219_214 := n13_; clear n0_ n1_ n2_ n3_ n4_ n5_ n6_ n7_ n8_ n9_ n10_ n11_ n12_ n13_; clear hb hbox hg; obtain ⟨Ao33, co33, eo33⟩ := Kd.R_slice HO217.out; subst eo33; have hnb34 := NB219_200.out; have hnc34 := NB200_219.out; have hnb35 := NB219_214.out; have hnc35 := NB214_219.out; have hcz36_0 : w32.cell? ⟨gb219, 0, none⟩ = some (.slice none 0 0) := (blk_cell BK219.out 0).trans rfl; have hcz36_1 : w32.cell? ⟨gb219, 1, none⟩ = some (.bool false) := (blk_cell BK219.out 1).trans rfl; have hfz36_0 := blk_frozen BK219.out 0; have hfz36_1 := blk_frozen BK219.out 1) | ((with_reducible refine gate_callee (f := 24) rfl ?_); refine goesL_ (some 36) rfl rfl Try.func24 (by kernel_rfl) rfl #[.slice A1 l1.length c1] rfl (by (try simp only [List.map_toArray, List.map_cons, List.map_nil]); first | done | rfl | (simp only [List.length_drop, List.length_take]; rfl)) ?_; (with_reducible refine (laws_toIntS.calls k _ _ l1 t220 _ ?side1 ?side2 A14.out).mono ?_); (case side1 => exact Kd.C_below HR1.out (by repeat (first | (with_reducible first | exact HB.out | apply below_alloc | apply pw_below_drewN | apply below_drew1 | refine below_set ?_ GE200.out | refine below_set ?_ GE214.out | refine below_set ?_ GE219.out) | exact HB.out))); (case side2 => exact HC1.out); rintro e w37 ⟨v221, rfl, ho0, hb⟩; refine ⟨_, rfl, ?_⟩; have n0_ := Aside0.mk (Kd.R_elder' (by (with_reducible repeat (first | apply Kd.R_alloc | apply Kd.R_drewN | apply Kd.R_drew)); exact (Kd.R_mono (Kd.R_far (p := ⟨gb219, 1, none⟩) (Kd.R_far (p := ⟨gb219, 0, none⟩) (Kd.R_types HO204.out BK219.out (by decide)) (fun _ hk => hk.2) (.slice Ao33 t215.length co33)) (fun _ hk => hk.2) (.bool t218)) (fun _ h_ => h_.1))) (Kd.R_base ho0) hb); have n1_ := Aside0.mk (Kd.R_elder' (by (with_reducible repeat (first | apply Kd.R_alloc | apply Kd.R_drewN | apply Kd.R_drew)); exact (Kd.R_mono (Kd.R_far (p := ⟨gb219, 1, none⟩) (Kd.R_far (p := ⟨gb219, 0, none⟩) (Kd.R_types HO208.out BK219.out (by decide)) (fun _ hk => hk.2) (.slice Ao33 t215.length co33)) (fun _ hk => hk.2) (.bool t218)) (fun _ h_ => h_.1))) (Kd.R_base ho0) hb); have n2_ := Aside0.mk (Kd.R_elder' (by (with_reducible repeat (first | apply Kd.R_alloc | apply Kd.R_drewN | apply Kd.R_drew)); exact (Kd.R_mono (Kd.R_far (p := ⟨gb219, 1, none⟩) (Kd.R_far (p := ⟨gb219, 0, none⟩) (Kd.R_types HO211.out BK219.out (by decide)) (fun _ hk => hk.2) (.slice Ao33 t215.length co33)) (fun _ hk => hk.2) (.bool t218)) (fun _ h_ => h_.1))) (Kd.R_base ho0) hb); have n3_ := Aside0.mk (Kd.R_elder' (by (with_reducible repeat (first | apply Kd.R_alloc | apply Kd.R_drewN | apply Kd.R_drew)); exact (Kd.R_mono (Kd.R_far (p := ⟨gb219, 1, none⟩) (Kd.R_far (p := ⟨gb219, 0, none⟩) (Kd.R_types HO217.out BK219.out (by decide)) (fun _ hk => hk.2) (.slice Ao33 t215.length co33)) (fun _ hk => hk.2) (.bool t218)) (fun _ h_ => h_.1))) (Kd.R_base ho0) hb); have n4_ := Aside0.mk (Kd.R_lower (Kd.R_new' (Kd.R_new' (Kd.R_new' (Kd.R_new' ho0 (Kd.R_lt (by (with_reducible repeat (first | apply Kd.R_alloc | apply Kd.R_drewN | apply Kd.R_drew)); exact (Kd.R_mono (Kd.R_far (p := ⟨gb219, 1, none⟩) (Kd.R_far (p := ⟨gb219, 0, none⟩) (Kd.R_types HO204.out BK219.out (by decide)) (fun _ hk => hk.2) (.slice Ao33 t215.length co33)) (fun _ hk => hk.2) (.bool t218)) (fun _ h_ => h_.1))))) (Kd.R_lt (by (with_reducible repeat (first | apply Kd.R_alloc | apply Kd.R_drewN | apply Kd.R_drew)); exact (Kd.R_mono (Kd.R_far (p := ⟨gb219, 1, none⟩) (Kd.R_far (p := ⟨gb219, 0, none⟩) (Kd.R_types HO208.out BK219.out (by decide)) (fun _ hk => hk.2) (.slice Ao33 t215.length co33)) (fun _ hk => hk.2) (.bool t218)) (fun _ h_ => h_.1))))) (Kd.R_lt (by (with_reducible repeat (first | apply Kd.R_alloc | apply Kd.R_drewN | apply Kd.R_drew)); exact (Kd.R_mono (Kd.R_far (p := ⟨gb219, 1, none⟩) (Kd.R_far (p := ⟨gb219, 0, none⟩) (Kd.R_types HO211.out BK219.out (by decide)) (fun _ hk => hk.2) (.slice Ao33 t215.length co33)) (fun _ hk => hk.2) (.bool t218)) (fun _ h_ => h_.1))))) (Kd.R_lt (by (with_reducible repeat (first | apply Kd.R_alloc | apply Kd.R_drewN | apply Kd.R_drew)); exact (Kd.R_mono (Kd.R_far (p := ⟨gb219, 1, none⟩) (Kd.R_far (p := ⟨gb219, 0, none⟩) (Kd.R_types HO217.out BK219.out (by decide)) (fun _ hk => hk.2) (.slice Ao33 t215.length co33)) (fun _ hk => hk.2) (.bool t218)) (fun _ h_ => h_.1))))) (below_size (by repeat (first | (with_reducible first | exact HB.out | apply below_alloc | apply pw_below_drewN | apply below_drew1 | refine below_set ?_ GE200.out | refine below_set ?_ GE214.out | refine below_set ?_ GE219.out) | exact HB.out)))); have n5_ := Aside0.mk (blk_below (g := gb200) (o := .cells #[.slice A0_0 l0_0.length c0_0, .bool a0_1] 24 (0, 0)) (by (with_reducible repeat (first | refine blk_drewN ?_ _ | refine blk_drew ?_ | refine blk_alloc ?_ _)); refine blk_far ?_ NB200_219.out _; (with_reducible repeat (first | refine blk_drewN ?_ _ | refine blk_drew ?_ | refine blk_alloc ?_ _)); refine blk_far ?_ NB200_219.out _; (with_reducible repeat (first | refine blk_drewN ?_ _ | refine blk_drew ?_ | refine blk_alloc ?_ _)); exact BK200.out) hb); have n6_ := Aside0.mk (blk_below (g := gb214) (o := .cells #[.slice Ao27 t209.length co27, .bool t212] 26 (0, 0)) (by (with_reducible repeat (first | refine blk_drewN ?_ _ | refine blk_drew ?_ | refine blk_alloc ?_ _)); refine blk_far ?_ NB214_219.out _; (with_reducible repeat (first | refine blk_drewN ?_ _ | refine blk_drew ?_ | refine blk_alloc ?_ _)); refine blk_far ?_ NB214_219.out _; (with_reducible repeat (first | refine blk_drewN ?_ _ | refine blk_drew ?_ | refine blk_alloc ?_ _)); exact BK214.out) hb); have n7_ := Aside0.mk (blk_below (g := gb219) (o := .cells #[.slice Ao33 t215.length co33, .bool t218] 26 (0, 0)) (by (with_reducible repeat (first | refine blk_drewN ?_ _ | refine blk_drew ?_ | refine blk_alloc ?_ _)); refine blk_put (cs := #[.slice Ao33 t215.length co33, .bool false]) ?_ 1 _ rfl; (with_reducible repeat (first | refine blk_drewN ?_ _ | refine blk_drew ?_ | refine blk_alloc ?_ _)); refine blk_put (cs := #[.slice none 0 0, .bool false]) ?_ 0 _ rfl; (with_reducible repeat (first | refine blk_drewN ?_ _ | refine blk_drew ?_ | refine blk_alloc ?_ _)); exact BK219.out) hb); have n8_ := Aside0.mk (below_step (by repeat (first | (with_reducible first | exact HB.out | apply below_alloc | apply pw_below_drewN | apply below_drew1 | refine below_set ?_ GE200.out | refine below_set ?_ GE214.out | refine below_set ?_ GE219.out) | exact HB.out)) hb); clear HO204; clear HO208; clear HO211; clear HO217; clear BK200; clear BK214; clear BK219; clear HB; have HO204 := n0_; have HO208 := n1_; have HO211 := n2_; have HO217 := n3_; have HO222 := n4_; have BK200 := n5_; have BK214 := n6_; have BK219 := n7_; have HB := n8_; clear n0_ n1_ n2_ n3_ n4_ n5_ n6_ n7_ n8_; (try clear hb); (try clear hb2); (try clear hk); (try clear hi); (try clear ho0); have hcz38_0 : w37.cell? ⟨gb219, 0, none⟩ = some (.slice Ao33 t215.length co33) := (blk_cell BK219.out 0).trans rfl; have hcz38_1 : w37.cell? ⟨gb219, 1, none⟩ = some (.bool t218) := (blk_cell BK219.out 1).trans rfl; have hfz38_0 := blk_frozen BK219.out 0; have hfz38_1 := blk_frozen BK219.out 1; obtain ⟨Ao39, co39, eo39⟩ := Kd.R_slice HO222.out; subst eo39) | ((with_reducible refine gate_callee (f := 25) rfl ?_); refine goesL_ (some 40) rfl rfl Try.func25 (by kernel_rfl) rfl #[.agg #[.slice Ao33 t215.length co33, .bool t218], .slice Ao39 t220.length co39] rfl (by (try simp only [List.map_toArray, List.map_cons, List.map_nil]); first | done | rfl | (simp only [List.length_drop, List.length_take]; rfl)) ?_; (with_reducible refine (impl_RenameGraph.calls k _ _ t215 t218 _ _ t220 t223 t226 t227 _ ?side1 ?side2 ?side3 ?side4 A15.out).mono ?_); (case side1 => repeat (first | exact (Kd.R_reads' HO217.out).2.2 | (with_reducible refine Kd.C_alloc ?_ _) | (with_reducible refine Kd.C_drewN ?_ _) | (with_reducible refine Kd.C_drew ?_))); (case side2 => exact (Kd.R_reads' HO217.out).2.1); (case side3 => repeat (first | exact (Kd.R_reads' HO222.out).2.2 | (with_reducible refine Kd.C_alloc ?_ _) | (with_reducible refine Kd.C_drewN ?_ _) | (with_reducible refine Kd.C_drew ?_))); (case side4 => exact (Kd.R_reads' HO222.out).2.1); rintro e w40 ⟨v224, rfl, ho0, hb⟩; refine ⟨_, rfl, ?_⟩; have n0_ := Aside0.mk (Kd.R_elder' (by (with_reducible repeat (first | apply Kd.R_alloc | apply Kd.R_drewN | apply Kd.R_drew)); exact HO204.out) (Kd.R_base ho0) hb); have n1_ := Aside0.mk (Kd.R_elder' (by (with_reducible repeat (first | apply Kd.R_alloc | apply Kd.R_drewN | apply Kd.R_drew)); exact HO208.out) (Kd.R_base ho0) hb); have n2_ := Aside0.mk (Kd.R_elder' (by (with_reducible repeat (first | apply Kd.R_alloc | apply Kd.R_drewN | apply Kd.R_drew)); exact HO211.out) (Kd.R_base ho0) hb); have n3_ := Aside0.mk (Kd.R_elder' (by (with_reducible repeat (first | apply Kd.R_alloc | apply Kd.R_drewN | apply Kd.R_drew)); exact HO217.out) (Kd.R_base ho0) hb); have n4_ := Aside0.mk (Kd.R_elder' (by (with_reducible repeat (first | apply Kd.R_alloc | apply Kd.R_drewN | apply Kd.R_drew)); exact HO222.out) (Kd.R_base ho0) hb); have n5_ := Aside0.mk (Kd.R_lower (Kd.R_new' (Kd.R_new' (Kd.R_new' (Kd.R_new' (Kd.R_new' ho0 (Kd.R_lt (by (with_reducible repeat (first | apply Kd.R_alloc | apply Kd.R_drewN | apply Kd.R_drew)); exact HO204.out))) (Kd.R_lt (by (with_reducible repeat (first | apply Kd.R_alloc | apply Kd.R_drewN | apply Kd.R_drew)); exact HO208.out))) (Kd.R_lt (by (with_reducible repeat (first | apply Kd.R_alloc | apply Kd.R_drewN | apply Kd.R_drew)); exact HO211.out))) (Kd.R_lt (by (with_reducible repeat (first | apply Kd.R_alloc | apply Kd.R_drewN | apply Kd.R_drew)); exact HO217.out))) (Kd.R_lt (by (with_reducible repeat (first | apply Kd.R_alloc | apply Kd.R_drewN | apply Kd.R_drew)); exact HO222.out))) (below_size (by repeat (first | (with_reducible first | exact HB.out | apply below_alloc | apply pw_below_drewN | apply below_drew1 | refine below_set ?_ GE200.out | refine below_set ?_ GE214.out | refine below_set ?_ GE219.out) | exact HB.out)))); have n6_ := Aside0.mk (blk_below (g := gb200) (o := .cells #[.slice A0_0 l0_0.length c0_0, .bool a0_1] 24 (0, 0)) (by (with_reducible repeat (first | refine blk_drewN ?_ _ | refine blk_drew ?_ | refine blk_alloc ?_ _)); exact BK200.out) hb); have n7_ := Aside0.mk (blk_below (g := gb214) (o := .cells #[.slice Ao27 t209.length co27, .bool t212] 26 (0, 0)) (by (with_reducible repeat (first | refine blk_drewN ?_ _ | refine blk_drew ?_ | refine blk_alloc ?_ _)); exact BK214.out) hb); have n8_ := Aside0.mk (blk_below (g := gb219) (o := .cells #[.slice Ao33 t215.length co33, .bool t218] 26 (0, 0)) (by (with_reducible repeat (first | refine blk_drewN ?_ _ | refine blk_drew ?_ | refine blk_alloc ?_ _)); exact BK219.out) hb); have n9_ := Aside0.mk (below_step (by repeat (first | (with_reducible first | exact HB.out | apply below_alloc | apply pw_below_drewN | apply below_drew1 | refine below_set ?_ GE200.out | refine below_set ?_ GE214.out | refine below_set ?_ GE219.out) | exact HB.out)) hb); clear HO204; clear HO208; clear HO211; clear HO217; clear HO222; clear BK200; clear BK214; clear BK219; clear HB; have HO204 := n0_; have HO208 := n1_; have HO211 := n2_; have HO217 := n3_; have HO222 := n4_; have HO225 := n5_; have BK200 := n6_; have BK214 := n7_; have BK219 := n8_; have HB := n9_; clear n0_ n1_ n2_ n3_ n4_ n5_ n6_ n7_ n8_ n9_; (try clear hb); (try clear hb2); (try clear hk); (try clear hi); (try clear ho0)) | ((with_reducible refine gate_dst (N := 10) rfl ?_); refine box_event ?hg (N := 10) ?hd (cs := #[.slice none 0 0, .bool false]) (t := 26) ?hr ?_; (case hd => rfl); (case hg => rfl); (case hr => first | (go_simp; done) | (go_simp; rfl)); intro gb228 hg w41 hbox hb; have n0_ := Aside0.mk (Kd.R_below (by (with_reducible repeat (first | apply Kd.R_alloc | apply Kd.R_drewN | apply Kd.R_drew)); exact HO204.out) hb); have n1_ := Aside0.mk (Kd.R_below (by (with_reducible repeat (first | apply Kd.R_alloc | apply Kd.R_drewN | apply Kd.R_drew)); exact HO208.out) hb); have n2_ := Aside0.mk (Kd.R_below (by (with_reducible repeat (first | apply Kd.R_alloc | apply Kd.R_drewN | apply Kd.R_drew)); exact HO211.out) hb); have n3_ := Aside0.mk (Kd.R_below (by (with_reducible repeat (first | apply Kd.R_alloc | apply Kd.R_drewN | apply Kd.R_drew)); exact HO217.out) hb); have n4_ := Aside0.mk (Kd.R_below (by (with_reducible repeat (first | apply Kd.R_alloc | apply Kd.R_drewN | apply Kd.R_drew)); exact HO222.out) hb); have n5_ := Aside0.mk (Kd.R_below (by (with_reducible repeat (first | apply Kd.R_alloc | apply Kd.R_drewN | apply Kd.R_drew)); exact HO225.out) hb); have n6_ := Aside0.mk (blk_below (g := gb200) (o := .cells #[.slice A0_0 l0_0.length c0_0, .bool a0_1] 24 (0, 0)) (by (with_reducible repeat (first | refine blk_drewN ?_ _ | refine blk_drew ?_ | refine blk_alloc ?_ _)); exact BK200.out) hb); have n7_ := Aside0.mk (blk_below (g := gb214) (o := .cells #[.slice Ao27 t209.length co27, .bool t212] 26 (0, 0)) (by (with_reducible repeat (first | refine blk_drewN ?_ _ | refine blk_drew ?_ | refine blk_alloc ?_ _)); exact BK214.out) hb); have n8_ := Aside0.mk (blk_below (g := gb219) (o := .cells #[.slice Ao33 t215.length co33, .bool t218] 26 (0, 0)) (by (with_reducible repeat (first | refine blk_drewN ?_ _ | refine blk_drew ?_ | refine blk_alloc ?_ _)); exact BK219.out) hb); have n9_ := Aside0.mk (below_step (by repeat (first | (with_reducible first | exact HB.out | apply below_alloc | apply pw_below_drewN | apply below_drew1 | refine below_set ?_ GE200.out | refine below_set ?_ GE214.out | refine below_set ?_ GE219.out) | exact HB.out)) hb); have n10_ := Aside0.mk (hbox); have n11_ := Aside0.mk ((by rw [hg]; exact (below_size (by repeat (first | (with_reducible first | exact HB.out | apply below_alloc | apply pw_below_drewN | apply below_drew1 | refine below_set ?_ GE200.out | refine below_set ?_ GE214.out | refine below_set ?_ GE219.out) | exact HB.out))) : w.heap.size ≤ gb228)); have n12_ := Aside0.mk ((by rw [hg]; exact (below_size (by repeat (first | (with_reducible first | exact HB.out | apply below_alloc | apply pw_below_drewN | apply below_drew1 | refine below_set ?_ GE200.out | refine below_set ?_ GE214.out | refine below_set ?_ GE219.out) | exact HB.out))) : w.heap.size ≤ gb228)); have n13_ := Aside0.mk ((by rw [hg]; exact Nat.ne_of_lt (blk_lt (g := gb200) (o := .cells #[.slice A0_0 l0_0.length c0_0, .bool a0_1] 24 (0, 0)) (by (with_reducible repeat (first | refine blk_drewN ?_ _ | refine blk_drew ?_ | refine blk_alloc ?_ _)); exact BK200.out)) : gb200 ≠ gb228)); have n14_ := Aside0.mk ((by rw [hg]; exact Nat.ne_of_gt (blk_lt (g := gb200) (o := .cells #[.slice A0_0 l0_0.length c0_0, .bool a0_1] 24 (0, 0)) (by (with_reducible repeat (first | refine blk_drewN ?_ _ | refine blk_drew ?_ | refine blk_alloc ?_ _)); exact BK200.out)) : gb228 ≠ gb200)); have n15_ := Aside0.mk ((by rw [hg]; exact Nat.ne_of_lt (blk_lt (g := gb214) (o := .cells #[.slice Ao27 t209.length co27, .bool t212] 26 (0, 0)) (by (with_reducible repeat (first | refine blk_drewN ?_ _ | refine blk_drew ?_ | refine blk_alloc ?_ _)); exact BK214.out)) : gb214 ≠ gb228)); have n16_ := Aside0.mk ((by rw [hg]; exact Nat.ne_of_gt (blk_lt (g := gb214) (o := .cells #[.slice Ao27 t209.length co27, .bool t212] 26 (0, 0)) (by (with_reducible repeat (first | refine blk_drewN ?_ _ | refine blk_drew ?_ | refine blk_alloc ?_ _)); exact BK214.out)) : gb228 ≠ gb214)); have n17_ := Aside0.mk ((by rw [hg]; exact Nat.ne_of_lt (blk_lt (g := gb219) (o := .cells #[.slice Ao33 t215.length co33, .bool t218] 26 (0, 0)) (by (with_reducible repeat (first | refine blk_drewN ?_ _ | refine blk_drew ?_ | refine blk_alloc ?_ _)); exact BK219.out)) : gb219 ≠ gb228)); have n18_ := Aside0.mk ((by rw [hg]; exact Nat.ne_of_gt (blk_lt (g := gb219) (o := .cells #[.slice Ao33 t215.length co33, .bool t218] 26 (0, 0)) (by (with_reducible repeat (first | refine blk_drewN ?_ _ | refine blk_drew ?_ | refine blk_alloc ?_ _)); exact BK219.out)) : gb228 ≠ gb219)); clear HO204; clear HO208; clear HO211; clear HO217; clear HO222; clear HO225; clear BK200; clear BK214; clear BK219; clear HB; have HO204 := n0_; have HO208 := n1_; have HO211 := n2_; have HO217 := n3_; have HO222 := n4_; have HO225 := n5_; have BK200 := n6_; have BK214 := n7_; have BK219 := n8_; have HB := n9_; have BK228 := n10_; have GW228 := n11_; have GE228 := n12_; have NB200_228 := n13_; have NB228_200 := n14_; have NB214_228 := n15_; have NB228_214 := n16_; have NB219_228 := n17_; have NB228_219 := n18_; clear n0_ n1_ n2_ n3_ n4_ n5_ n6_ n7_ n8_ n9_ n10_ n11_ n12_ n13_ n14_ n15_ n16_ n17_ n18_; clear hb hbox hg; obtain ⟨Ao42, co42, eo42⟩ := Kd.R_slice HO225.out; subst eo42; have hnb43 := NB228_200.out; have hnc43 := NB200_228.out; have hnb44 := NB228_214.out; have hnc44 := NB214_228.out; have hnb45 := NB228_219.out; have hnc45 := NB219_228.out; have hcz46_0 : w41.cell? ⟨gb228, 0, none⟩ = some (.slice none 0 0) := (blk_cell BK228.out 0).trans rfl; have hcz46_1 : w41.cell? ⟨gb228, 1, none⟩ = some (.bool false) := (blk_cell BK228.out 1).trans rfl; have hfz46_0 := blk_frozen BK228.out 0; have hfz46_1 := blk_frozen BK228.out 1))
      (try simp only [Act.put, List.setIfInBounds_toArray, List.set_cons_zero, List.set_cons_succ])
      go_cut [51] (fun v51 wc => ∃ (kq : Nat) (x51_15 : Bool), v51 = .bool x51_15 ∧ Aside0 (laws_FnExactRenameGraph.j0 kq l1 t213 t220 t227 x51_15 l0_0 a0_1 t209 t212 t215 t218 t223 t226 = some r) ∧ Aside0 (kq ≤ k) ∧ Aside0 (Kd.R (Kd.int .i64) 3 wc w.heap.size (fun k_ => some k_ ≠ ((.slice Ao27 t209.length co27) : Value).ownBlock ∧ some k_ ≠ ((.slice Ao33 t215.length co33) : Value).ownBlock ∧ some k_ ≠ ((.slice Ao42 t223.length co42) : Value).ownBlock) (.slice Ao39 t220.length co39) t220) ∧ Aside0 (Kd.R (Kd.int .i64) 3 wc w.heap.size (fun k_ => some k_ ≠ ((.slice Ao39 t220.length co39) : Value).ownBlock ∧ some k_ ≠ ((.slice Ao33 t215.length co33) : Value).ownBlock ∧ some k_ ≠ ((.slice Ao42 t223.length co42) : Value).ownBlock) (.slice Ao27 t209.length co27) t209) ∧ Aside0 (Kd.R (Kd.int .i64) 3 wc w.heap.size (fun k_ => some k_ ≠ ((.slice Ao39 t220.length co39) : Value).ownBlock ∧ some k_ ≠ ((.slice Ao27 t209.length co27) : Value).ownBlock ∧ some k_ ≠ ((.slice Ao42 t223.length co42) : Value).ownBlock) (.slice Ao33 t215.length co33) t215) ∧ Aside0 (Kd.R (Kd.int .i64) 3 wc w.heap.size (fun k_ => some k_ ≠ ((.slice Ao39 t220.length co39) : Value).ownBlock ∧ some k_ ≠ ((.slice Ao27 t209.length co27) : Value).ownBlock ∧ some k_ ≠ ((.slice Ao33 t215.length co33) : Value).ownBlock) (.slice Ao42 t223.length co42) t223) ∧ Aside0 (wc.heap[gb200]? = some (.cells #[(.slice A0_0 l0_0.length c0_0), .bool a0_1] 24 (0, 0))) ∧ Aside0 (wc.heap[gb214]? = some (.cells #[(.slice Ao27 t209.length co27), .bool t212] 26 (0, 0))) ∧ Aside0 (wc.heap[gb219]? = some (.cells #[(.slice Ao33 t215.length co33), .bool t218] 26 (0, 0))) ∧ Aside0 (wc.heap[gb228]? = some (.cells #[(.slice Ao42 t223.length co42), .bool t226] 26 (0, 0))) ∧ Aside0 (Below w.heap.size w wc))
      case first => as_aux_lemma =>
        have H := HC16.out
        clear HC16
        replace H := Option.bind_eq_some_iff.mp H
        obtain ⟨t229, A470, H⟩ := H
        replace H : (if t229 = true then (laws_FnExactRenameGraph.j0 k l1 t213 t220 t227 (t227 != t213) l0_0 a0_1 t209 t212 t215 t218 t223 t226) else (laws_FnExactRenameGraph.j0 k l1 t213 t220 t227 true l0_0 a0_1 t209 t212 t215 t218 t223 t226)) = some r := H
        have A47 := Aside0.mk A470
        clear A470
        by_cases c48 : t229 = true
        · subst c48
          have H1 : (laws_FnExactRenameGraph.j0 k l1 t213 t220 t227 (t227 != t213) l0_0 a0_1 t209 t212 t215 t218 t223 t226) = some r := by rw [if_pos rfl] at H; exact H
          clear H
          have H := H1
          clear H1
          have H' := Aside0.mk H
          clear H
          have hnb49 := NB228_200.out
          have hnc49 := NB200_228.out
          have hnb50 := NB228_214.out
          have hnc50 := NB214_228.out
          have hnb51 := NB228_219.out
          have hnc51 := NB219_228.out
          have hcz52_0 : w41.cell? ⟨gb228, 0, none⟩ = some (.slice none 0 0) := (blk_cell BK228.out 0).trans rfl
          have hcz52_1 : w41.cell? ⟨gb228, 1, none⟩ = some (.bool false) := (blk_cell BK228.out 1).trans rfl
          have hfz52_0 := blk_frozen BK228.out 0
          have hfz52_1 := blk_frozen BK228.out 1
          have hnb53 := NB214_200.out
          have hnc53 := NB200_214.out
          have hnb54 := NB214_219.out
          have hnc54 := NB219_214.out
          have hcz55_0 : w41.cell? ⟨gb214, 0, none⟩ = some (.slice Ao27 t209.length co27) := (blk_cell BK214.out 0).trans rfl
          have hcz55_1 : w41.cell? ⟨gb214, 1, none⟩ = some (.bool t212) := (blk_cell BK214.out 1).trans rfl
          have hfz55_0 := blk_frozen BK214.out 0
          have hfz55_1 := blk_frozen BK214.out 1
          go_wp2_with (first | ((with_reducible refine gate_callee (f := 11) rfl ?_); refine goesL_ (some 45) rfl rfl Try.func11 (by kernel_rfl) rfl #[.agg #[.slice Ao42 t223.length co42, .bool t226], .agg #[.slice Ao27 t209.length co27, .bool t212]] rfl (by (try simp only [List.map_toArray, List.map_cons, List.map_nil]); first | done | rfl | (simp only [List.length_drop, List.length_take]; rfl)) ?_; (with_reducible refine (laws_eqGraph.calls k _ _ t223 t226 _ _ t209 t212 true _ ?side1 ?side2 ?side3 ?side4 A47.out).mono ?_); (case side1 => refine (Kd.R_reads' (e := 3) (base := w.heap.size) (ok := fun k_ => (((((True ∧ some k_ ≠ (.slice Ao23 t202.length co23 : Value).ownBlock) ∧ some k_ ≠ (.slice Ao24 t206.length co24 : Value).ownBlock) ∧ some k_ ≠ (.slice Ao27 t209.length co27 : Value).ownBlock) ∧ some k_ ≠ (.slice Ao33 t215.length co33 : Value).ownBlock) ∧ some k_ ≠ (.slice Ao39 t220.length co39 : Value).ownBlock)) (n := t223.length) (c := co42) ?_).2.2; exact (by (with_reducible repeat (first | apply Kd.R_alloc | apply Kd.R_drewN | apply Kd.R_drew)); exact (Kd.R_mono (Kd.R_far (p := ⟨gb228, 1, none⟩) (Kd.R_far (p := ⟨gb228, 0, none⟩) (Kd.R_types HO225.out BK228.out (by decide)) (fun _ hk => hk.2) (.slice Ao42 t223.length co42)) (fun _ hk => hk.2) (.bool t226)) (fun _ h_ => h_.1)))); (case side2 => exact (Kd.R_reads' HO225.out).2.1); (case side3 => refine (Kd.R_reads' (e := 3) (base := w.heap.size) (ok := fun k_ => (((((True ∧ some k_ ≠ (.slice Ao23 t202.length co23 : Value).ownBlock) ∧ some k_ ≠ (.slice Ao24 t206.length co24 : Value).ownBlock) ∧ some k_ ≠ (.slice Ao33 t215.length co33 : Value).ownBlock) ∧ some k_ ≠ (.slice Ao39 t220.length co39 : Value).ownBlock) ∧ some k_ ≠ (.slice Ao42 t223.length co42 : Value).ownBlock)) (n := t209.length) (c := co27) ?_).2.2; exact (by (with_reducible repeat (first | apply Kd.R_alloc | apply Kd.R_drewN | apply Kd.R_drew)); exact (Kd.R_mono (Kd.R_far (p := ⟨gb228, 1, none⟩) (Kd.R_far (p := ⟨gb228, 0, none⟩) (Kd.R_types HO211.out BK228.out (by decide)) (fun _ hk => hk.2) (.slice Ao42 t223.length co42)) (fun _ hk => hk.2) (.bool t226)) (fun _ h_ => h_.1)))); (case side4 => exact (Kd.R_reads' HO211.out).2.1); rintro e w56 ⟨rfl, hb⟩; refine ⟨_, rfl, ?_⟩; have n0_ := Aside0.mk (Kd.R_below (by (with_reducible repeat (first | apply Kd.R_alloc | apply Kd.R_drewN | apply Kd.R_drew)); exact (Kd.R_mono (Kd.R_far (p := ⟨gb228, 1, none⟩) (Kd.R_far (p := ⟨gb228, 0, none⟩) (Kd.R_types HO204.out BK228.out (by decide)) (fun _ hk => hk.2) (.slice Ao42 t223.length co42)) (fun _ hk => hk.2) (.bool t226)) (fun _ h_ => h_.1))) hb); have n1_ := Aside0.mk (Kd.R_below (by (with_reducible repeat (first | apply Kd.R_alloc | apply Kd.R_drewN | apply Kd.R_drew)); exact (Kd.R_mono (Kd.R_far (p := ⟨gb228, 1, none⟩) (Kd.R_far (p := ⟨gb228, 0, none⟩) (Kd.R_types HO208.out BK228.out (by decide)) (fun _ hk => hk.2) (.slice Ao42 t223.length co42)) (fun _ hk => hk.2) (.bool t226)) (fun _ h_ => h_.1))) hb); have n2_ := Aside0.mk (Kd.R_below (by (with_reducible repeat (first | apply Kd.R_alloc | apply Kd.R_drewN | apply Kd.R_drew)); exact (Kd.R_mono (Kd.R_far (p := ⟨gb228, 1, none⟩) (Kd.R_far (p := ⟨gb228, 0, none⟩) (Kd.R_types HO211.out BK228.out (by decide)) (fun _ hk => hk.2) (.slice Ao42 t223.length co42)) (fun _ hk => hk.2) (.bool t226)) (fun _ h_ => h_.1))) hb); have n3_ := Aside0.mk (Kd.R_below (by (with_reducible repeat (first | apply Kd.R_alloc | apply Kd.R_drewN | apply Kd.R_drew)); exact (Kd.R_mono (Kd.R_far (p := ⟨gb228, 1, none⟩) (Kd.R_far (p := ⟨gb228, 0, none⟩) (Kd.R_types HO217.out BK228.out (by decide)) (fun _ hk => hk.2) (.slice Ao42 t223.length co42)) (fun _ hk => hk.2) (.bool t226)) (fun _ h_ => h_.1))) hb); have n4_ := Aside0.mk (Kd.R_below (by (with_reducible repeat (first | apply Kd.R_alloc | apply Kd.R_drewN | apply Kd.R_drew)); exact (Kd.R_mono (Kd.R_far (p := ⟨gb228, 1, none⟩) (Kd.R_far (p := ⟨gb228, 0, none⟩) (Kd.R_types HO222.out BK228.out (by decide)) (fun _ hk => hk.2) (.slice Ao42 t223.length co42)) (fun _ hk => hk.2) (.bool t226)) (fun _ h_ => h_.1))) hb); have n5_ := Aside0.mk (Kd.R_below (by (with_reducible repeat (first | apply Kd.R_alloc | apply Kd.R_drewN | apply Kd.R_drew)); exact (Kd.R_mono (Kd.R_far (p := ⟨gb228, 1, none⟩) (Kd.R_far (p := ⟨gb228, 0, none⟩) (Kd.R_types HO225.out BK228.out (by decide)) (fun _ hk => hk.2) (.slice Ao42 t223.length co42)) (fun _ hk => hk.2) (.bool t226)) (fun _ h_ => h_.1))) hb); have n6_ := Aside0.mk (blk_below (g := gb200) (o := .cells #[.slice A0_0 l0_0.length c0_0, .bool a0_1] 24 (0, 0)) (by (with_reducible repeat (first | refine blk_drewN ?_ _ | refine blk_drew ?_ | refine blk_alloc ?_ _)); refine blk_far ?_ NB200_228.out _; (with_reducible repeat (first | refine blk_drewN ?_ _ | refine blk_drew ?_ | refine blk_alloc ?_ _)); refine blk_far ?_ NB200_228.out _; (with_reducible repeat (first | refine blk_drewN ?_ _ | refine blk_drew ?_ | refine blk_alloc ?_ _)); exact BK200.out) hb); have n7_ := Aside0.mk (blk_below (g := gb214) (o := .cells #[.slice Ao27 t209.length co27, .bool t212] 26 (0, 0)) (by (with_reducible repeat (first | refine blk_drewN ?_ _ | refine blk_drew ?_ | refine blk_alloc ?_ _)); refine blk_far ?_ NB214_228.out _; (with_reducible repeat (first | refine blk_drewN ?_ _ | refine blk_drew ?_ | refine blk_alloc ?_ _)); refine blk_far ?_ NB214_228.out _; (with_reducible repeat (first | refine blk_drewN ?_ _ | refine blk_drew ?_ | refine blk_alloc ?_ _)); exact BK214.out) hb); have n8_ := Aside0.mk (blk_below (g := gb219) (o := .cells #[.slice Ao33 t215.length co33, .bool t218] 26 (0, 0)) (by (with_reducible repeat (first | refine blk_drewN ?_ _ | refine blk_drew ?_ | refine blk_alloc ?_ _)); refine blk_far ?_ NB219_228.out _; (with_reducible repeat (first | refine blk_drewN ?_ _ | refine blk_drew ?_ | refine blk_alloc ?_ _)); refine blk_far ?_ NB219_228.out _; (with_reducible repeat (first | refine blk_drewN ?_ _ | refine blk_drew ?_ | refine blk_alloc ?_ _)); exact BK219.out) hb); have n9_ := Aside0.mk (blk_below (g := gb228) (o := .cells #[.slice Ao42 t223.length co42, .bool t226] 26 (0, 0)) (by (with_reducible repeat (first | refine blk_drewN ?_ _ | refine blk_drew ?_ | refine blk_alloc ?_ _)); refine blk_put (cs := #[.slice Ao42 t223.length co42, .bool false]) ?_ 1 _ rfl; (with_reducible repeat (first | refine blk_drewN ?_ _ | refine blk_drew ?_ | refine blk_alloc ?_ _)); refine blk_put (cs := #[.slice none 0 0, .bool false]) ?_ 0 _ rfl; (with_reducible repeat (first | refine blk_drewN ?_ _ | refine blk_drew ?_ | refine blk_alloc ?_ _)); exact BK228.out) hb); have n10_ := Aside0.mk (below_step (by repeat (first | (with_reducible first | exact HB.out | apply below_alloc | apply pw_below_drewN | apply below_drew1 | refine below_set ?_ GE200.out | refine below_set ?_ GE214.out | refine below_set ?_ GE219.out | refine below_set ?_ GE228.out) | exact HB.out)) hb); clear HO204; clear HO208; clear HO211; clear HO217; clear HO222; clear HO225; clear BK200; clear BK214; clear BK219; clear BK228; clear HB; have HO204 := n0_; have HO208 := n1_; have HO211 := n2_; have HO217 := n3_; have HO222 := n4_; have HO225 := n5_; have BK200 := n6_; have BK214 := n7_; have BK219 := n8_; have BK228 := n9_; have HB := n10_; clear n0_ n1_ n2_ n3_ n4_ n5_ n6_ n7_ n8_ n9_ n10_; (try clear hb); (try clear hb2); (try clear hk); (try clear hi)))
          go_meet
          case rel => exact ⟨_, ((t227 != t213)), (by first | rfl | (simp; done) | (simp [*]; done) | (simp; cases t227 <;> simp)), H', ⟨by first | omega | exact Nat.le_refl _⟩, ⟨by (with_reducible repeat (first | apply Kd.R_alloc | apply Kd.R_drewN | apply Kd.R_drew)); exact Kd.R_mono HO222.out (fun _ hk => ⟨hk.1.1.2, ⟨hk.1.2, hk.2⟩⟩)⟩, ⟨by (with_reducible repeat (first | apply Kd.R_alloc | apply Kd.R_drewN | apply Kd.R_drew)); exact Kd.R_mono HO211.out (fun _ hk => ⟨hk.1.2, ⟨hk.1.1.2, hk.2⟩⟩)⟩, ⟨by (with_reducible repeat (first | apply Kd.R_alloc | apply Kd.R_drewN | apply Kd.R_drew)); exact Kd.R_mono HO217.out (fun _ hk => ⟨hk.1.2, ⟨hk.1.1.2, hk.2⟩⟩)⟩, ⟨by (with_reducible repeat (first | apply Kd.R_alloc | apply Kd.R_drewN | apply Kd.R_drew)); exact Kd.R_mono HO225.out (fun _ hk => ⟨hk.2, ⟨hk.1.1.2, hk.1.2⟩⟩)⟩, ⟨by (with_reducible repeat (first | refine blk_drewN ?_ _ | refine blk_drew ?_ | refine blk_alloc ?_ _)); exact BK200.out⟩, ⟨by (with_reducible repeat (first | refine blk_drewN ?_ _ | refine blk_drew ?_ | refine blk_alloc ?_ _)); exact BK214.out⟩, ⟨by (with_reducible repeat (first | refine blk_drewN ?_ _ | refine blk_drew ?_ | refine blk_alloc ?_ _)); exact BK219.out⟩, ⟨by (with_reducible repeat (first | refine blk_drewN ?_ _ | refine blk_drew ?_ | refine blk_alloc ?_ _)); exact BK228.out⟩, ⟨by repeat (first | (with_reducible first | exact HB.out | apply below_alloc | apply pw_below_drewN | apply below_drew1 | refine below_set ?_ GE200.out | refine below_set ?_ GE214.out | refine below_set ?_ GE219.out | refine below_set ?_ GE228.out) | exact HB.out)⟩⟩
        · replace c48 := Bool.eq_false_iff.mpr c48
          subst c48
          have H1 : (laws_FnExactRenameGraph.j0 k l1 t213 t220 t227 true l0_0 a0_1 t209 t212 t215 t218 t223 t226) = some r := by rw [if_neg (show ¬ (false = true) by decide)] at H; exact H
          clear H
          have H := H1
          clear H1
          have H' := Aside0.mk H
          clear H
          have hnb57 := NB228_200.out
          have hnc57 := NB200_228.out
          have hnb58 := NB228_214.out
          have hnc58 := NB214_228.out
          have hnb59 := NB228_219.out
          have hnc59 := NB219_228.out
          have hcz60_0 : w41.cell? ⟨gb228, 0, none⟩ = some (.slice none 0 0) := (blk_cell BK228.out 0).trans rfl
          have hcz60_1 : w41.cell? ⟨gb228, 1, none⟩ = some (.bool false) := (blk_cell BK228.out 1).trans rfl
          have hfz60_0 := blk_frozen BK228.out 0
          have hfz60_1 := blk_frozen BK228.out 1
          have hnb61 := NB214_200.out
          have hnc61 := NB200_214.out
          have hnb62 := NB214_219.out
          have hnc62 := NB219_214.out
          have hcz63_0 : w41.cell? ⟨gb214, 0, none⟩ = some (.slice Ao27 t209.length co27) := (blk_cell BK214.out 0).trans rfl
          have hcz63_1 : w41.cell? ⟨gb214, 1, none⟩ = some (.bool t212) := (blk_cell BK214.out 1).trans rfl
          have hfz63_0 := blk_frozen BK214.out 0
          have hfz63_1 := blk_frozen BK214.out 1
          go_wp2_with (first | ((with_reducible refine gate_callee (f := 11) rfl ?_); refine goesL_ (some 45) rfl rfl Try.func11 (by kernel_rfl) rfl #[.agg #[.slice Ao42 t223.length co42, .bool t226], .agg #[.slice Ao27 t209.length co27, .bool t212]] rfl (by (try simp only [List.map_toArray, List.map_cons, List.map_nil]); first | done | rfl | (simp only [List.length_drop, List.length_take]; rfl)) ?_; (with_reducible refine (laws_eqGraph.calls k _ _ t223 t226 _ _ t209 t212 false _ ?side1 ?side2 ?side3 ?side4 A47.out).mono ?_); (case side1 => refine (Kd.R_reads' (e := 3) (base := w.heap.size) (ok := fun k_ => (((((True ∧ some k_ ≠ (.slice Ao23 t202.length co23 : Value).ownBlock) ∧ some k_ ≠ (.slice Ao24 t206.length co24 : Value).ownBlock) ∧ some k_ ≠ (.slice Ao27 t209.length co27 : Value).ownBlock) ∧ some k_ ≠ (.slice Ao33 t215.length co33 : Value).ownBlock) ∧ some k_ ≠ (.slice Ao39 t220.length co39 : Value).ownBlock)) (n := t223.length) (c := co42) ?_).2.2; exact (by (with_reducible repeat (first | apply Kd.R_alloc | apply Kd.R_drewN | apply Kd.R_drew)); exact (Kd.R_mono (Kd.R_far (p := ⟨gb228, 1, none⟩) (Kd.R_far (p := ⟨gb228, 0, none⟩) (Kd.R_types HO225.out BK228.out (by decide)) (fun _ hk => hk.2) (.slice Ao42 t223.length co42)) (fun _ hk => hk.2) (.bool t226)) (fun _ h_ => h_.1)))); (case side2 => exact (Kd.R_reads' HO225.out).2.1); (case side3 => refine (Kd.R_reads' (e := 3) (base := w.heap.size) (ok := fun k_ => (((((True ∧ some k_ ≠ (.slice Ao23 t202.length co23 : Value).ownBlock) ∧ some k_ ≠ (.slice Ao24 t206.length co24 : Value).ownBlock) ∧ some k_ ≠ (.slice Ao33 t215.length co33 : Value).ownBlock) ∧ some k_ ≠ (.slice Ao39 t220.length co39 : Value).ownBlock) ∧ some k_ ≠ (.slice Ao42 t223.length co42 : Value).ownBlock)) (n := t209.length) (c := co27) ?_).2.2; exact (by (with_reducible repeat (first | apply Kd.R_alloc | apply Kd.R_drewN | apply Kd.R_drew)); exact (Kd.R_mono (Kd.R_far (p := ⟨gb228, 1, none⟩) (Kd.R_far (p := ⟨gb228, 0, none⟩) (Kd.R_types HO211.out BK228.out (by decide)) (fun _ hk => hk.2) (.slice Ao42 t223.length co42)) (fun _ hk => hk.2) (.bool t226)) (fun _ h_ => h_.1)))); (case side4 => exact (Kd.R_reads' HO211.out).2.1); rintro e w64 ⟨rfl, hb⟩; refine ⟨_, rfl, ?_⟩; have n0_ := Aside0.mk (Kd.R_below (by (with_reducible repeat (first | apply Kd.R_alloc | apply Kd.R_drewN | apply Kd.R_drew)); exact (Kd.R_mono (Kd.R_far (p := ⟨gb228, 1, none⟩) (Kd.R_far (p := ⟨gb228, 0, none⟩) (Kd.R_types HO204.out BK228.out (by decide)) (fun _ hk => hk.2) (.slice Ao42 t223.length co42)) (fun _ hk => hk.2) (.bool t226)) (fun _ h_ => h_.1))) hb); have n1_ := Aside0.mk (Kd.R_below (by (with_reducible repeat (first | apply Kd.R_alloc | apply Kd.R_drewN | apply Kd.R_drew)); exact (Kd.R_mono (Kd.R_far (p := ⟨gb228, 1, none⟩) (Kd.R_far (p := ⟨gb228, 0, none⟩) (Kd.R_types HO208.out BK228.out (by decide)) (fun _ hk => hk.2) (.slice Ao42 t223.length co42)) (fun _ hk => hk.2) (.bool t226)) (fun _ h_ => h_.1))) hb); have n2_ := Aside0.mk (Kd.R_below (by (with_reducible repeat (first | apply Kd.R_alloc | apply Kd.R_drewN | apply Kd.R_drew)); exact (Kd.R_mono (Kd.R_far (p := ⟨gb228, 1, none⟩) (Kd.R_far (p := ⟨gb228, 0, none⟩) (Kd.R_types HO211.out BK228.out (by decide)) (fun _ hk => hk.2) (.slice Ao42 t223.length co42)) (fun _ hk => hk.2) (.bool t226)) (fun _ h_ => h_.1))) hb); have n3_ := Aside0.mk (Kd.R_below (by (with_reducible repeat (first | apply Kd.R_alloc | apply Kd.R_drewN | apply Kd.R_drew)); exact (Kd.R_mono (Kd.R_far (p := ⟨gb228, 1, none⟩) (Kd.R_far (p := ⟨gb228, 0, none⟩) (Kd.R_types HO217.out BK228.out (by decide)) (fun _ hk => hk.2) (.slice Ao42 t223.length co42)) (fun _ hk => hk.2) (.bool t226)) (fun _ h_ => h_.1))) hb); have n4_ := Aside0.mk (Kd.R_below (by (with_reducible repeat (first | apply Kd.R_alloc | apply Kd.R_drewN | apply Kd.R_drew)); exact (Kd.R_mono (Kd.R_far (p := ⟨gb228, 1, none⟩) (Kd.R_far (p := ⟨gb228, 0, none⟩) (Kd.R_types HO222.out BK228.out (by decide)) (fun _ hk => hk.2) (.slice Ao42 t223.length co42)) (fun _ hk => hk.2) (.bool t226)) (fun _ h_ => h_.1))) hb); have n5_ := Aside0.mk (Kd.R_below (by (with_reducible repeat (first | apply Kd.R_alloc | apply Kd.R_drewN | apply Kd.R_drew)); exact (Kd.R_mono (Kd.R_far (p := ⟨gb228, 1, none⟩) (Kd.R_far (p := ⟨gb228, 0, none⟩) (Kd.R_types HO225.out BK228.out (by decide)) (fun _ hk => hk.2) (.slice Ao42 t223.length co42)) (fun _ hk => hk.2) (.bool t226)) (fun _ h_ => h_.1))) hb); have n6_ := Aside0.mk (blk_below (g := gb200) (o := .cells #[.slice A0_0 l0_0.length c0_0, .bool a0_1] 24 (0, 0)) (by (with_reducible repeat (first | refine blk_drewN ?_ _ | refine blk_drew ?_ | refine blk_alloc ?_ _)); refine blk_far ?_ NB200_228.out _; (with_reducible repeat (first | refine blk_drewN ?_ _ | refine blk_drew ?_ | refine blk_alloc ?_ _)); refine blk_far ?_ NB200_228.out _; (with_reducible repeat (first | refine blk_drewN ?_ _ | refine blk_drew ?_ | refine blk_alloc ?_ _)); exact BK200.out) hb); have n7_ := Aside0.mk (blk_below (g := gb214) (o := .cells #[.slice Ao27 t209.length co27, .bool t212] 26 (0, 0)) (by (with_reducible repeat (first | refine blk_drewN ?_ _ | refine blk_drew ?_ | refine blk_alloc ?_ _)); refine blk_far ?_ NB214_228.out _; (with_reducible repeat (first | refine blk_drewN ?_ _ | refine blk_drew ?_ | refine blk_alloc ?_ _)); refine blk_far ?_ NB214_228.out _; (with_reducible repeat (first | refine blk_drewN ?_ _ | refine blk_drew ?_ | refine blk_alloc ?_ _)); exact BK214.out) hb); have n8_ := Aside0.mk (blk_below (g := gb219) (o := .cells #[.slice Ao33 t215.length co33, .bool t218] 26 (0, 0)) (by (with_reducible repeat (first | refine blk_drewN ?_ _ | refine blk_drew ?_ | refine blk_alloc ?_ _)); refine blk_far ?_ NB219_228.out _; (with_reducible repeat (first | refine blk_drewN ?_ _ | refine blk_drew ?_ | refine blk_alloc ?_ _)); refine blk_far ?_ NB219_228.out _; (with_reducible repeat (first | refine blk_drewN ?_ _ | refine blk_drew ?_ | refine blk_alloc ?_ _)); exact BK219.out) hb); have n9_ := Aside0.mk (blk_below (g := gb228) (o := .cells #[.slice Ao42 t223.length co42, .bool t226] 26 (0, 0)) (by (with_reducible repeat (first | refine blk_drewN ?_ _ | refine blk_drew ?_ | refine blk_alloc ?_ _)); refine blk_put (cs := #[.slice Ao42 t223.length co42, .bool false]) ?_ 1 _ rfl; (with_reducible repeat (first | refine blk_drewN ?_ _ | refine blk_drew ?_ | refine blk_alloc ?_ _)); refine blk_put (cs := #[.slice none 0 0, .bool false]) ?_ 0 _ rfl; (with_reducible repeat (first | refine blk_drewN ?_ _ | refine blk_drew ?_ | refine blk_alloc ?_ _)); exact BK228.out) hb); have n10_ := Aside0.mk (below_step (by repeat (first | (with_reducible first | exact HB.out | apply below_alloc | apply pw_below_drewN | apply below_drew1 | refine below_set ?_ GE200.out | refine below_set ?_ GE214.out | refine below_set ?_ GE219.out | refine below_set ?_ GE228.out) | exact HB.out)) hb); clear HO204; clear HO208; clear HO211; clear HO217; clear HO222; clear HO225; clear BK200; clear BK214; clear BK219; clear BK228; clear HB; have HO204 := n0_; have HO208 := n1_; have HO211 := n2_; have HO217 := n3_; have HO222 := n4_; have HO225 := n5_; have BK200 := n6_; have BK214 := n7_; have BK219 := n8_; have BK228 := n9_; have HB := n10_; clear n0_ n1_ n2_ n3_ n4_ n5_ n6_ n7_ n8_ n9_ n10_; (try clear hb); (try clear hb2); (try clear hk); (try clear hi)))
          go_meet
          case rel => exact ⟨_, (true), (by first | rfl | (simp; done) | (simp [*]; done)), H', ⟨by first | omega | exact Nat.le_refl _⟩, ⟨by (with_reducible repeat (first | apply Kd.R_alloc | apply Kd.R_drewN | apply Kd.R_drew)); exact Kd.R_mono HO222.out (fun _ hk => ⟨hk.1.1.2, ⟨hk.1.2, hk.2⟩⟩)⟩, ⟨by (with_reducible repeat (first | apply Kd.R_alloc | apply Kd.R_drewN | apply Kd.R_drew)); exact Kd.R_mono HO211.out (fun _ hk => ⟨hk.1.2, ⟨hk.1.1.2, hk.2⟩⟩)⟩, ⟨by (with_reducible repeat (first | apply Kd.R_alloc | apply Kd.R_drewN | apply Kd.R_drew)); exact Kd.R_mono HO217.out (fun _ hk => ⟨hk.1.2, ⟨hk.1.1.2, hk.2⟩⟩)⟩, ⟨by (with_reducible repeat (first | apply Kd.R_alloc | apply Kd.R_drewN | apply Kd.R_drew)); exact Kd.R_mono HO225.out (fun _ hk => ⟨hk.2, ⟨hk.1.1.2, hk.1.2⟩⟩)⟩, ⟨by (with_reducible repeat (first | refine blk_drewN ?_ _ | refine blk_drew ?_ | refine blk_alloc ?_ _)); exact BK200.out⟩, ⟨by (with_reducible repeat (first | refine blk_drewN ?_ _ | refine blk_drew ?_ | refine blk_alloc ?_ _)); exact BK214.out⟩, ⟨by (with_reducible repeat (first | refine blk_drewN ?_ _ | refine blk_drew ?_ | refine blk_alloc ?_ _)); exact BK219.out⟩, ⟨by (with_reducible repeat (first | refine blk_drewN ?_ _ | refine blk_drew ?_ | refine blk_alloc ?_ _)); exact BK228.out⟩, ⟨by repeat (first | (with_reducible first | exact HB.out | apply below_alloc | apply pw_below_drewN | apply below_drew1 | refine below_set ?_ GE200.out | refine below_set ?_ GE214.out | refine below_set ?_ GE219.out | refine below_set ?_ GE228.out) | exact HB.out)⟩⟩
      case rest => as_aux_lemma =>
        clear HC16
        try clear c1
        try clear c2
        try clear p2
        try clear c3
        try clear c3b0
        try clear c3b1
        try clear c4
        try clear c5
        try clear c6
        try clear c6b0
        try clear c7
        try clear c9
        try clear c11
        try clear c23
        try clear c24
        try clear c25
        try clear c28
        try clear c34
        try clear c35
        try clear c43
        try clear c44
        try clear c45
        try clear c48
        try clear c49
        try clear c50
        try clear c51
        try clear c53
        try clear c54
        try clear c57
        try clear c58
        try clear c59
        try clear c61
        try clear c62
        try clear hcz18_0
        try clear hcz18_1
        try clear hcz20_0
        try clear hcz20_1
        try clear hcz29_0
        try clear hcz29_1
        try clear hcz30_0
        try clear hcz30_1
        try clear hcz36_0
        try clear hcz36_1
        try clear hcz38_0
        try clear hcz38_1
        try clear hcz46_0
        try clear hcz46_1
        try clear hcz52_0
        try clear hcz52_1
        try clear hcz55_0
        try clear hcz55_1
        try clear hcz60_0
        try clear hcz60_1
        try clear hcz63_0
        try clear hcz63_1
        try clear hcz8_0
        try clear hcz8_1
        try clear hfz18_0
        try clear hfz18_1
        try clear hfz20_0
        try clear hfz20_1
        try clear hfz29_0
        try clear hfz29_1
        try clear hfz30_0
        try clear hfz30_1
        try clear hfz36_0
        try clear hfz36_1
        try clear hfz38_0
        try clear hfz38_1
        try clear hfz46_0
        try clear hfz46_1
        try clear hfz52_0
        try clear hfz52_1
        try clear hfz55_0
        try clear hfz55_1
        try clear hfz60_0
        try clear hfz60_1
        try clear hfz63_0
        try clear hfz63_1
        try clear hfz8_0
        try clear hfz8_1
        obtain ⟨kq, x51_15, rfl, HA, HJ15, HO_9, HO_215000, HO_220000, HO_229000, BK200, BK214, BK219, BK228, HB⟩ := hcut
        cases kq with
        | zero => exact absurd HA.out (by simp [laws_FnExactRenameGraph.j0])
        | succ kj15 =>
          have H := HA.out
          clear HA
          simp only [laws_FnExactRenameGraph.j0] at H
          by_cases c65 : x51_15 = true
          · subst c65
            have H1 : (some false) = some r := by rw [if_pos rfl] at H; exact H
            clear H
            have H := H1
            clear H1
            obtain rfl := Option.some.inj H
            go_wp2
            go_ret
            exact ⟨by first | rfl | (simp [errW_none, errW_some] <;> rfl) | (simp [*, errW_none, errW_some] <;> rfl), by repeat (first | (with_reducible first | exact HB.out | apply below_alloc | apply pw_below_drewN | apply below_drew1 | refine below_set ?_ GE200.out | refine below_set ?_ GE214.out | refine below_set ?_ GE219.out | refine below_set ?_ GE228.out) | exact HB.out)⟩
          · replace c65 := Bool.eq_false_iff.mpr c65
            subst c65
            have H1 : ((laws_toGraph.f kj15 l0_0 a0_1).bind fun bt230 => ((laws_eqGraph.f kj15 t215 t218 bt230.1 bt230.2).bind fun t234 => (if t234 = true then ((laws_toIntS.f kj15 l1).bind fun t235 => ((laws_eqIntS.f kj15 t220 t235).bind fun t238 => (if t238 = true then ((laws_markGraph.f kj15 t215 t218 1).bind fun bt239 => ((laws_markIntS.f kj15 t220 bt239.1).bind fun bt241 => (if bt241.1 < 0 then (laws_FnExactRenameGraph.j1 kj15 l1 t213 true l0_0 a0_1 t209 t212 t223 t226) else ((laws_eqGraph.f kj15 t223 t226 t209 t212).bind fun t243 => (if t243 = true then (laws_FnExactRenameGraph.j1 kj15 l1 t213 (t227 != t213) l0_0 a0_1 t209 t212 t223 t226) else (laws_FnExactRenameGraph.j1 kj15 l1 t213 true l0_0 a0_1 t209 t212 t223 t226)))))) else (some false)))) else (some false)))) = some r := by rw [if_neg (show ¬ (false = true) by decide)] at H; exact H
            clear H
            have H := H1
            clear H1
            replace H := Option.bind_eq_some_iff.mp H
            obtain ⟨⟨t230, t233⟩, A660, H⟩ := H
            replace H : ((laws_eqGraph.f kj15 t215 t218 t230 t233).bind fun t234 => (if t234 = true then ((laws_toIntS.f kj15 l1).bind fun t235 => ((laws_eqIntS.f kj15 t220 t235).bind fun t238 => (if t238 = true then ((laws_markGraph.f kj15 t215 t218 1).bind fun bt239 => ((laws_markIntS.f kj15 t220 bt239.1).bind fun bt241 => (if bt241.1 < 0 then (laws_FnExactRenameGraph.j1 kj15 l1 t213 true l0_0 a0_1 t209 t212 t223 t226) else ((laws_eqGraph.f kj15 t223 t226 t209 t212).bind fun t243 => (if t243 = true then (laws_FnExactRenameGraph.j1 kj15 l1 t213 (t227 != t213) l0_0 a0_1 t209 t212 t223 t226) else (laws_FnExactRenameGraph.j1 kj15 l1 t213 true l0_0 a0_1 t209 t212 t223 t226)))))) else (some false)))) else (some false))) = some r := H
            have A66 := Aside0.mk A660
            clear A660
            replace H := Option.bind_eq_some_iff.mp H
            obtain ⟨t234, A670, H⟩ := H
            replace H : (if t234 = true then ((laws_toIntS.f kj15 l1).bind fun t235 => ((laws_eqIntS.f kj15 t220 t235).bind fun t238 => (if t238 = true then ((laws_markGraph.f kj15 t215 t218 1).bind fun bt239 => ((laws_markIntS.f kj15 t220 bt239.1).bind fun bt241 => (if bt241.1 < 0 then (laws_FnExactRenameGraph.j1 kj15 l1 t213 true l0_0 a0_1 t209 t212 t223 t226) else ((laws_eqGraph.f kj15 t223 t226 t209 t212).bind fun t243 => (if t243 = true then (laws_FnExactRenameGraph.j1 kj15 l1 t213 (t227 != t213) l0_0 a0_1 t209 t212 t223 t226) else (laws_FnExactRenameGraph.j1 kj15 l1 t213 true l0_0 a0_1 t209 t212 t223 t226)))))) else (some false)))) else (some false)) = some r := H
            have A67 := Aside0.mk A670
            clear A670
            by_cases c68 : t234 = true
            · subst c68
              have H1 : ((laws_toIntS.f kj15 l1).bind fun t235 => ((laws_eqIntS.f kj15 t220 t235).bind fun t238 => (if t238 = true then ((laws_markGraph.f kj15 t215 t218 1).bind fun bt239 => ((laws_markIntS.f kj15 t220 bt239.1).bind fun bt241 => (if bt241.1 < 0 then (laws_FnExactRenameGraph.j1 kj15 l1 t213 true l0_0 a0_1 t209 t212 t223 t226) else ((laws_eqGraph.f kj15 t223 t226 t209 t212).bind fun t243 => (if t243 = true then (laws_FnExactRenameGraph.j1 kj15 l1 t213 (t227 != t213) l0_0 a0_1 t209 t212 t223 t226) else (laws_FnExactRenameGraph.j1 kj15 l1 t213 true l0_0 a0_1 t209 t212 t223 t226)))))) else (some false)))) = some r := by rw [if_pos rfl] at H; exact H
              clear H
              have H := H1
              clear H1
              replace H := Option.bind_eq_some_iff.mp H
              obtain ⟨t235, A690, H⟩ := H
              replace H : ((laws_eqIntS.f kj15 t220 t235).bind fun t238 => (if t238 = true then ((laws_markGraph.f kj15 t215 t218 1).bind fun bt239 => ((laws_markIntS.f kj15 t220 bt239.1).bind fun bt241 => (if bt241.1 < 0 then (laws_FnExactRenameGraph.j1 kj15 l1 t213 true l0_0 a0_1 t209 t212 t223 t226) else ((laws_eqGraph.f kj15 t223 t226 t209 t212).bind fun t243 => (if t243 = true then (laws_FnExactRenameGraph.j1 kj15 l1 t213 (t227 != t213) l0_0 a0_1 t209 t212 t223 t226) else (laws_FnExactRenameGraph.j1 kj15 l1 t213 true l0_0 a0_1 t209 t212 t223 t226)))))) else (some false))) = some r := H
              have A69 := Aside0.mk A690
              clear A690
              replace H := Option.bind_eq_some_iff.mp H
              obtain ⟨t238, A700, H⟩ := H
              replace H : (if t238 = true then ((laws_markGraph.f kj15 t215 t218 1).bind fun bt239 => ((laws_markIntS.f kj15 t220 bt239.1).bind fun bt241 => (if bt241.1 < 0 then (laws_FnExactRenameGraph.j1 kj15 l1 t213 true l0_0 a0_1 t209 t212 t223 t226) else ((laws_eqGraph.f kj15 t223 t226 t209 t212).bind fun t243 => (if t243 = true then (laws_FnExactRenameGraph.j1 kj15 l1 t213 (t227 != t213) l0_0 a0_1 t209 t212 t223 t226) else (laws_FnExactRenameGraph.j1 kj15 l1 t213 true l0_0 a0_1 t209 t212 t223 t226)))))) else (some false)) = some r := H
              have A70 := Aside0.mk A700
              clear A700
              by_cases c71 : t238 = true
              · subst c71
                have H1 : ((laws_markGraph.f kj15 t215 t218 1).bind fun bt239 => ((laws_markIntS.f kj15 t220 bt239.1).bind fun bt241 => (if bt241.1 < 0 then (laws_FnExactRenameGraph.j1 kj15 l1 t213 true l0_0 a0_1 t209 t212 t223 t226) else ((laws_eqGraph.f kj15 t223 t226 t209 t212).bind fun t243 => (if t243 = true then (laws_FnExactRenameGraph.j1 kj15 l1 t213 (t227 != t213) l0_0 a0_1 t209 t212 t223 t226) else (laws_FnExactRenameGraph.j1 kj15 l1 t213 true l0_0 a0_1 t209 t212 t223 t226)))))) = some r := by rw [if_pos rfl] at H; exact H
                clear H
                have H := H1
                clear H1
                replace H := Option.bind_eq_some_iff.mp H
                obtain ⟨⟨t239, t240⟩, A720, H⟩ := H
                replace H : ((laws_markIntS.f kj15 t220 t239).bind fun bt241 => (if bt241.1 < 0 then (laws_FnExactRenameGraph.j1 kj15 l1 t213 true l0_0 a0_1 t209 t212 t223 t226) else ((laws_eqGraph.f kj15 t223 t226 t209 t212).bind fun t243 => (if t243 = true then (laws_FnExactRenameGraph.j1 kj15 l1 t213 (t227 != t213) l0_0 a0_1 t209 t212 t223 t226) else (laws_FnExactRenameGraph.j1 kj15 l1 t213 true l0_0 a0_1 t209 t212 t223 t226))))) = some r := H
                have A72 := Aside0.mk A720
                clear A720
                replace H := Option.bind_eq_some_iff.mp H
                obtain ⟨⟨t241, t242⟩, A730, H⟩ := H
                replace H : (if t241 < 0 then (laws_FnExactRenameGraph.j1 kj15 l1 t213 true l0_0 a0_1 t209 t212 t223 t226) else ((laws_eqGraph.f kj15 t223 t226 t209 t212).bind fun t243 => (if t243 = true then (laws_FnExactRenameGraph.j1 kj15 l1 t213 (t227 != t213) l0_0 a0_1 t209 t212 t223 t226) else (laws_FnExactRenameGraph.j1 kj15 l1 t213 true l0_0 a0_1 t209 t212 t223 t226)))) = some r := H
                have A73 := Aside0.mk A730
                clear A730
                have HC74 := Aside0.mk H
                clear H
                try go_wp2
                have n0_ := Aside0.mk (Kd.R_drew HO_9.out)
                have n1_ := Aside0.mk (Kd.R_drew HO_215000.out)
                have n2_ := Aside0.mk (Kd.R_drew HO_220000.out)
                have n3_ := Aside0.mk (Kd.R_drew HO_229000.out)
                have n4_ := Aside0.mk (blk_drew BK200.out)
                have n5_ := Aside0.mk (blk_drew BK214.out)
                have n6_ := Aside0.mk (blk_drew BK219.out)
                have n7_ := Aside0.mk (blk_drew BK228.out)
                have n8_ := Aside0.mk (below_drew1 HB.out)
                clear HO_9
                clear HO_215000
                clear HO_220000
                clear HO_229000
                clear BK200
                clear BK214
                clear BK219
                clear BK228
                clear HB
                have HO_9 := n0_
                have HO_215000 := n1_
                have HO_220000 := n2_
                have HO_229000 := n3_
                have BK200 := n4_
                have BK214 := n5_
                have BK219 := n6_
                have BK228 := n7_
                have HB := n8_
                clear n0_ n1_ n2_ n3_ n4_ n5_ n6_ n7_ n8_
                refine start_ (n := 5) (S := fun w' => w'.cell? ⟨gb219, 0, none⟩ = some (.slice Ao33 t215.length co33) ∧ w'.cell? ⟨gb219, 1, none⟩ = some (.bool t218) ∧ w'.cell? ⟨gb200, 0, none⟩ = some (.slice A0_0 l0_0.length c0_0) ∧ w'.cell? ⟨gb200, 1, none⟩ = some (.bool a0_1)) (ds := []) #[false, false, false, false, false] (by kernel_rfl) rfl rfl ⟨(blk_cell BK219.out 0).trans rfl, (blk_cell BK219.out 1).trans rfl, (blk_cell BK200.out 0).trans rfl, (blk_cell BK200.out 1).trans rfl⟩ (fun hHeld => ?_)
                generalize wc.drew = w75 at HO_9 HO_215000 HO_220000 HO_229000 BK200 BK214 BK219 BK228 HB hHeld ⊢
                refine take_ (i := 0) (N := some 52) (v := ?_) (a' := ?_) #[true, false, false, false, false] rfl rfl (by kernel_rfl) (fun _ _ _ h => h) (Or.inl ⟨by rfl, ?_⟩) hHeld ?_ ?_
                rotate_left
                · rintro w' ⟨s0, s1, s2, s3⟩
                  go_simp
                  with_reducible rfl
                rotate_left
                · simp only [Act.put, List.setIfInBounds_toArray, List.set_cons_zero, List.set_cons_succ, i64_w, i32_w]
                  rfl
                refine take_ (i := 1) (N := some 53) (v := ?_) (a' := ?_) #[true, true, false, false, false] rfl rfl (by kernel_rfl) (fun _ _ _ h => h) (Or.inl ⟨by rfl, ?_⟩) hHeld ?_ ?_
                rotate_left
                · rintro w' ⟨s0, s1, s2, s3⟩
                  go_simp
                  with_reducible rfl
                rotate_left
                · simp only [Act.put, List.setIfInBounds_toArray, List.set_cons_zero, List.set_cons_succ, i64_w, i32_w]
                  rfl
                refine one_ (i := 2) (N := some 54) #[true, true, true, false, false] rfl rfl (by kernel_rfl) (by decide) (fun K hK => ?_)
                refine goes_ Try.func9 (by kernel_rfl) rfl #[.agg #[.slice A0_0 l0_0.length c0_0, .bool a0_1]] (by rfl) rfl rfl (by (try simp only [List.map_toArray, List.map_cons, List.map_nil]); first | done | rfl | (simp only [List.length_drop, List.length_take]; rfl)) ?_
                with_reducible refine (laws_toGraph.calls kj15 _ _ l0_0 a0_1 t230 t233 _ ?side1 ?side2 A66.out).mono ?_
                (case side1 => repeat (first | exact (Kd.C_below HR0_0.out HB.out) | (with_reducible refine Kd.C_alloc ?_ _) | (with_reducible refine Kd.C_drewN ?_ _) | (with_reducible refine Kd.C_drew ?_)))
                (case side2 => exact HC0_0.out)
                rintro e w76 ⟨v231, rfl, ho0, hb⟩
                refine ⟨_, rfl, ?_⟩
                have n0_ := Aside0.mk (Kd.R_elder' (by (with_reducible repeat (first | apply Kd.R_alloc | apply Kd.R_drewN | apply Kd.R_drew)); exact HO_9.out) (Kd.R_base ho0) hb)
                have n1_ := Aside0.mk (Kd.R_elder' (by (with_reducible repeat (first | apply Kd.R_alloc | apply Kd.R_drewN | apply Kd.R_drew)); exact HO_215000.out) (Kd.R_base ho0) hb)
                have n2_ := Aside0.mk (Kd.R_elder' (by (with_reducible repeat (first | apply Kd.R_alloc | apply Kd.R_drewN | apply Kd.R_drew)); exact HO_220000.out) (Kd.R_base ho0) hb)
                have n3_ := Aside0.mk (Kd.R_elder' (by (with_reducible repeat (first | apply Kd.R_alloc | apply Kd.R_drewN | apply Kd.R_drew)); exact HO_229000.out) (Kd.R_base ho0) hb)
                have n4_ := Aside0.mk (Kd.R_lower (Kd.R_new' (Kd.R_new' (Kd.R_new' (Kd.R_new' ho0 (Kd.R_lt (by (with_reducible repeat (first | apply Kd.R_alloc | apply Kd.R_drewN | apply Kd.R_drew)); exact HO_9.out))) (Kd.R_lt (by (with_reducible repeat (first | apply Kd.R_alloc | apply Kd.R_drewN | apply Kd.R_drew)); exact HO_215000.out))) (Kd.R_lt (by (with_reducible repeat (first | apply Kd.R_alloc | apply Kd.R_drewN | apply Kd.R_drew)); exact HO_220000.out))) (Kd.R_lt (by (with_reducible repeat (first | apply Kd.R_alloc | apply Kd.R_drewN | apply Kd.R_drew)); exact HO_229000.out))) (below_size (by repeat (first | (with_reducible first | exact HB.out | apply below_alloc | apply pw_below_drewN | apply below_drew1 | refine below_set ?_ GE200.out | refine below_set ?_ GE214.out | refine below_set ?_ GE219.out | refine below_set ?_ GE228.out) | exact HB.out))))
                have n5_ := Aside0.mk (blk_below (g := gb200) (o := .cells #[.slice A0_0 l0_0.length c0_0, .bool a0_1] 24 (0, 0)) (by (with_reducible repeat (first | refine blk_drewN ?_ _ | refine blk_drew ?_ | refine blk_alloc ?_ _)); exact BK200.out) hb)
                have n6_ := Aside0.mk (blk_below (g := gb214) (o := .cells #[.slice Ao27 t209.length co27, .bool t212] 26 (0, 0)) (by (with_reducible repeat (first | refine blk_drewN ?_ _ | refine blk_drew ?_ | refine blk_alloc ?_ _)); exact BK214.out) hb)
                have n7_ := Aside0.mk (blk_below (g := gb219) (o := .cells #[.slice Ao33 t215.length co33, .bool t218] 26 (0, 0)) (by (with_reducible repeat (first | refine blk_drewN ?_ _ | refine blk_drew ?_ | refine blk_alloc ?_ _)); exact BK219.out) hb)
                have n8_ := Aside0.mk (blk_below (g := gb228) (o := .cells #[.slice Ao42 t223.length co42, .bool t226] 26 (0, 0)) (by (with_reducible repeat (first | refine blk_drewN ?_ _ | refine blk_drew ?_ | refine blk_alloc ?_ _)); exact BK228.out) hb)
                have n9_ := Aside0.mk (below_step (by repeat (first | (with_reducible first | exact HB.out | apply below_alloc | apply pw_below_drewN | apply below_drew1 | refine below_set ?_ GE200.out | refine below_set ?_ GE214.out | refine below_set ?_ GE219.out | refine below_set ?_ GE228.out) | exact HB.out)) hb)
                clear HO_9
                clear HO_215000
                clear HO_220000
                clear HO_229000
                clear BK200
                clear BK214
                clear BK219
                clear BK228
                clear HB
                have HO_9 := n0_
                have HO_215000 := n1_
                have HO_220000 := n2_
                have HO_229000 := n3_
                have HO232 := n4_
                have BK200 := n5_
                have BK214 := n6_
                have BK219 := n7_
                have BK228 := n8_
                have HB := n9_
                clear n0_ n1_ n2_ n3_ n4_ n5_ n6_ n7_ n8_ n9_
                (try clear hb)
                (try clear hb2)
                (try clear hk)
                (try clear hi)
                (try clear ho0)
                obtain ⟨Ao77, co77, eo77⟩ := Kd.R_slice HO232.out
                (first | subst eo77 | (injection eo77 with f1_ f2_ f3_; have f4_ := f1_.symm; have f5_ := f3_.symm; clear f1_ f2_ f3_; subst f4_; subst f5_))
                refine hK.out _ _ ⟨(blk_cell BK219.out 0).trans rfl, (blk_cell BK219.out 1).trans rfl, (blk_cell BK200.out 0).trans rfl, (blk_cell BK200.out 1).trans rfl⟩ (fun hHeld => ?_)
                clear hK K
                refine norm_ (a' := ?_) ?_ ?_
                rotate_left
                · show Act.put _ (some 54) _ = _
                  simp only [Act.put, List.setIfInBounds_toArray, List.set_cons_zero, List.set_cons_succ, i64_w, i32_w]
                  rfl
                refine one_ (i := 3) (N := some 55) #[true, true, true, true, false] rfl rfl (by kernel_rfl) (by decide) (fun K hK => ?_)
                refine goes_ Try.func11 (by kernel_rfl) rfl #[.agg #[.slice Ao33 t215.length co33, .bool t218], .agg #[.slice Ao77 t230.length co77, .bool t233]] (by rfl) rfl rfl (by (try simp only [List.map_toArray, List.map_cons, List.map_nil]); first | done | rfl | (simp only [List.length_drop, List.length_take]; rfl)) ?_
                with_reducible refine (laws_eqGraph.calls kj15 _ _ t215 t218 _ _ t230 t233 true _ ?side1 ?side2 ?side3 ?side4 A67.out).mono ?_
                (case side1 => repeat (first | exact (Kd.R_reads' HO_220000.out).2.2 | (with_reducible refine Kd.C_alloc ?_ _) | (with_reducible refine Kd.C_drewN ?_ _) | (with_reducible refine Kd.C_drew ?_)))
                (case side2 => exact (Kd.R_reads' HO_220000.out).2.1)
                (case side3 => repeat (first | exact (Kd.R_reads' HO232.out).2.2 | (with_reducible refine Kd.C_alloc ?_ _) | (with_reducible refine Kd.C_drewN ?_ _) | (with_reducible refine Kd.C_drew ?_)))
                (case side4 => exact (Kd.R_reads' HO232.out).2.1)
                rintro e w78 ⟨rfl, hb⟩
                refine ⟨_, rfl, ?_⟩
                have n0_ := Aside0.mk (Kd.R_below (by (with_reducible repeat (first | apply Kd.R_alloc | apply Kd.R_drewN | apply Kd.R_drew)); exact HO_9.out) hb)
                have n1_ := Aside0.mk (Kd.R_below (by (with_reducible repeat (first | apply Kd.R_alloc | apply Kd.R_drewN | apply Kd.R_drew)); exact HO_215000.out) hb)
                have n2_ := Aside0.mk (Kd.R_below (by (with_reducible repeat (first | apply Kd.R_alloc | apply Kd.R_drewN | apply Kd.R_drew)); exact HO_220000.out) hb)
                have n3_ := Aside0.mk (Kd.R_below (by (with_reducible repeat (first | apply Kd.R_alloc | apply Kd.R_drewN | apply Kd.R_drew)); exact HO_229000.out) hb)
                have n4_ := Aside0.mk (Kd.R_below (by (with_reducible repeat (first | apply Kd.R_alloc | apply Kd.R_drewN | apply Kd.R_drew)); exact HO232.out) hb)
                have n5_ := Aside0.mk (blk_below (g := gb200) (o := .cells #[.slice A0_0 l0_0.length c0_0, .bool a0_1] 24 (0, 0)) (by (with_reducible repeat (first | refine blk_drewN ?_ _ | refine blk_drew ?_ | refine blk_alloc ?_ _)); exact BK200.out) hb)
                have n6_ := Aside0.mk (blk_below (g := gb214) (o := .cells #[.slice Ao27 t209.length co27, .bool t212] 26 (0, 0)) (by (with_reducible repeat (first | refine blk_drewN ?_ _ | refine blk_drew ?_ | refine blk_alloc ?_ _)); exact BK214.out) hb)
                have n7_ := Aside0.mk (blk_below (g := gb219) (o := .cells #[.slice Ao33 t215.length co33, .bool t218] 26 (0, 0)) (by (with_reducible repeat (first | refine blk_drewN ?_ _ | refine blk_drew ?_ | refine blk_alloc ?_ _)); exact BK219.out) hb)
                have n8_ := Aside0.mk (blk_below (g := gb228) (o := .cells #[.slice Ao42 t223.length co42, .bool t226] 26 (0, 0)) (by (with_reducible repeat (first | refine blk_drewN ?_ _ | refine blk_drew ?_ | refine blk_alloc ?_ _)); exact BK228.out) hb)
                have n9_ := Aside0.mk (below_step (by repeat (first | (with_reducible first | exact HB.out | apply below_alloc | apply pw_below_drewN | apply below_drew1 | refine below_set ?_ GE200.out | refine below_set ?_ GE214.out | refine below_set ?_ GE219.out | refine below_set ?_ GE228.out) | exact HB.out)) hb)
                clear HO_9
                clear HO_215000
                clear HO_220000
                clear HO_229000
                clear HO232
                clear BK200
                clear BK214
                clear BK219
                clear BK228
                clear HB
                have HO_9 := n0_
                have HO_215000 := n1_
                have HO_220000 := n2_
                have HO_229000 := n3_
                have HO232 := n4_
                have BK200 := n5_
                have BK214 := n6_
                have BK219 := n7_
                have BK228 := n8_
                have HB := n9_
                clear n0_ n1_ n2_ n3_ n4_ n5_ n6_ n7_ n8_ n9_
                (try clear hb)
                (try clear hb2)
                (try clear hk)
                (try clear hi)
                refine hK.out _ _ ⟨(blk_cell BK219.out 0).trans rfl, (blk_cell BK219.out 1).trans rfl, (blk_cell BK200.out 0).trans rfl, (blk_cell BK200.out 1).trans rfl⟩ (fun hHeld => ?_)
                clear hK K
                refine norm_ (a' := ?_) ?_ ?_
                rotate_left
                · show Act.put _ (some 55) _ = _
                  simp only [Act.put, List.setIfInBounds_toArray, List.set_cons_zero, List.set_cons_succ, i64_w, i32_w]
                  rfl
                refine pure_ (i := 4) (N := some 56) (v := ?_) (a' := ?_) #[true, true, true, true, true] rfl rfl (by kernel_rfl) (fun _ _ _ h => h) (Or.inl ⟨by rfl, ?_⟩) ?_ ?_
                rotate_left
                · intro w'
                  go_simp
                  with_reducible rfl
                rotate_left
                · simp only [Act.put, List.setIfInBounds_toArray, List.set_cons_zero, List.set_cons_succ, i64_w, i32_w]
                  rfl
                refine done_ (by kernel_rfl) ?_
                go_upto_region 20 with (first | ((with_reducible refine gate_callee (f := 24) rfl ?_); refine goesL_ (some 59) rfl rfl Try.func24 (by kernel_rfl) rfl #[.slice A1 l1.length c1] rfl (by (try simp only [List.map_toArray, List.map_cons, List.map_nil]); first | done | rfl | (simp only [List.length_drop, List.length_take]; rfl)) ?_; (with_reducible refine (laws_toIntS.calls kj15 _ _ l1 t235 _ ?side1 ?side2 A69.out).mono ?_); (case side1 => repeat (first | exact (Kd.C_below HR1.out HB.out) | (with_reducible refine Kd.C_alloc ?_ _) | (with_reducible refine Kd.C_drewN ?_ _) | (with_reducible refine Kd.C_drew ?_))); (case side2 => exact HC1.out); rintro e w79 ⟨v236, rfl, ho0, hb⟩; refine ⟨_, rfl, ?_⟩; have n0_ := Aside0.mk (Kd.R_elder' (by (with_reducible repeat (first | apply Kd.R_alloc | apply Kd.R_drewN | apply Kd.R_drew)); exact HO_9.out) (Kd.R_base ho0) hb); have n1_ := Aside0.mk (Kd.R_elder' (by (with_reducible repeat (first | apply Kd.R_alloc | apply Kd.R_drewN | apply Kd.R_drew)); exact HO_215000.out) (Kd.R_base ho0) hb); have n2_ := Aside0.mk (Kd.R_elder' (by (with_reducible repeat (first | apply Kd.R_alloc | apply Kd.R_drewN | apply Kd.R_drew)); exact HO_220000.out) (Kd.R_base ho0) hb); have n3_ := Aside0.mk (Kd.R_elder' (by (with_reducible repeat (first | apply Kd.R_alloc | apply Kd.R_drewN | apply Kd.R_drew)); exact HO_229000.out) (Kd.R_base ho0) hb); have n4_ := Aside0.mk (Kd.R_elder' (by (with_reducible repeat (first | apply Kd.R_alloc | apply Kd.R_drewN | apply Kd.R_drew)); exact HO232.out) (Kd.R_base ho0) hb); have n5_ := Aside0.mk (Kd.R_lower (Kd.R_new' (Kd.R_new' (Kd.R_new' (Kd.R_new' (Kd.R_new' ho0 (Kd.R_lt (by (with_reducible repeat (first | apply Kd.R_alloc | apply Kd.R_drewN | apply Kd.R_drew)); exact HO_9.out))) (Kd.R_lt (by (with_reducible repeat (first | apply Kd.R_alloc | apply Kd.R_drewN | apply Kd.R_drew)); exact HO_215000.out))) (Kd.R_lt (by (with_reducible repeat (first | apply Kd.R_alloc | apply Kd.R_drewN | apply Kd.R_drew)); exact HO_220000.out))) (Kd.R_lt (by (with_reducible repeat (first | apply Kd.R_alloc | apply Kd.R_drewN | apply Kd.R_drew)); exact HO_229000.out))) (Kd.R_lt (by (with_reducible repeat (first | apply Kd.R_alloc | apply Kd.R_drewN | apply Kd.R_drew)); exact HO232.out))) (below_size (by repeat (first | (with_reducible first | exact HB.out | apply below_alloc | apply pw_below_drewN | apply below_drew1 | refine below_set ?_ GE200.out | refine below_set ?_ GE214.out | refine below_set ?_ GE219.out | refine below_set ?_ GE228.out) | exact HB.out)))); have n6_ := Aside0.mk (blk_below (g := gb200) (o := .cells #[.slice A0_0 l0_0.length c0_0, .bool a0_1] 24 (0, 0)) (by (with_reducible repeat (first | refine blk_drewN ?_ _ | refine blk_drew ?_ | refine blk_alloc ?_ _)); exact BK200.out) hb); have n7_ := Aside0.mk (blk_below (g := gb214) (o := .cells #[.slice Ao27 t209.length co27, .bool t212] 26 (0, 0)) (by (with_reducible repeat (first | refine blk_drewN ?_ _ | refine blk_drew ?_ | refine blk_alloc ?_ _)); exact BK214.out) hb); have n8_ := Aside0.mk (blk_below (g := gb219) (o := .cells #[.slice Ao33 t215.length co33, .bool t218] 26 (0, 0)) (by (with_reducible repeat (first | refine blk_drewN ?_ _ | refine blk_drew ?_ | refine blk_alloc ?_ _)); exact BK219.out) hb); have n9_ := Aside0.mk (blk_below (g := gb228) (o := .cells #[.slice Ao42 t223.length co42, .bool t226] 26 (0, 0)) (by (with_reducible repeat (first | refine blk_drewN ?_ _ | refine blk_drew ?_ | refine blk_alloc ?_ _)); exact BK228.out) hb); have n10_ := Aside0.mk (below_step (by repeat (first | (with_reducible first | exact HB.out | apply below_alloc | apply pw_below_drewN | apply below_drew1 | refine below_set ?_ GE200.out | refine below_set ?_ GE214.out | refine below_set ?_ GE219.out | refine below_set ?_ GE228.out) | exact HB.out)) hb); clear HO_9; clear HO_215000; clear HO_220000; clear HO_229000; clear HO232; clear BK200; clear BK214; clear BK219; clear BK228; clear HB; have HO_9 := n0_; have HO_215000 := n1_; have HO_220000 := n2_; have HO_229000 := n3_; have HO232 := n4_; have HO237 := n5_; have BK200 := n6_; have BK214 := n7_; have BK219 := n8_; have BK228 := n9_; have HB := n10_; clear n0_ n1_ n2_ n3_ n4_ n5_ n6_ n7_ n8_ n9_ n10_; (try clear hb); (try clear hb2); (try clear hk); (try clear hi); (try clear ho0); obtain ⟨Ao80, co80, eo80⟩ := Kd.R_slice HO237.out; subst eo80) | ((with_reducible refine gate_callee (f := 26) rfl ?_); refine goesL_ (some 60) rfl rfl Try.func26 (by kernel_rfl) rfl #[.slice Ao39 t220.length co39, .slice Ao80 t235.length co80] rfl (by (try simp only [List.map_toArray, List.map_cons, List.map_nil]); first | done | rfl | (simp only [List.length_drop, List.length_take]; rfl)) ?_; (with_reducible refine (laws_eqIntS.calls kj15 _ _ t220 _ _ t235 true _ ?side1 ?side2 ?side3 ?side4 A70.out).mono ?_); (case side1 => repeat (first | exact (Kd.R_reads' HO_9.out).2.2 | (with_reducible refine Kd.C_alloc ?_ _) | (with_reducible refine Kd.C_drewN ?_ _) | (with_reducible refine Kd.C_drew ?_))); (case side2 => exact (Kd.R_reads' HO_9.out).2.1); (case side3 => repeat (first | exact (Kd.R_reads' HO237.out).2.2 | (with_reducible refine Kd.C_alloc ?_ _) | (with_reducible refine Kd.C_drewN ?_ _) | (with_reducible refine Kd.C_drew ?_))); (case side4 => exact (Kd.R_reads' HO237.out).2.1); rintro e w' ⟨rfl, ⟨nd, rfl⟩⟩; refine ⟨_, rfl, ?_⟩; have hnb81 := NB219_200.out; have hnc81 := NB200_219.out; have hnb82 := NB219_214.out; have hnc82 := NB214_219.out; have hnb83 := NB219_228.out; have hnc83 := NB228_219.out; have hcz84_0 : w79.cell? ⟨gb219, 0, none⟩ = some (.slice Ao33 t215.length co33) := (blk_cell BK219.out 0).trans rfl; have hcz84_1 : w79.cell? ⟨gb219, 1, none⟩ = some (.bool t218) := (blk_cell BK219.out 1).trans rfl; have hfz84_0 := blk_frozen BK219.out 0; have hfz84_1 := blk_frozen BK219.out 1) | ((with_reducible refine gate_callee (f := 12) rfl ?_); refine goesL_ (some 64) rfl rfl Try.func12 (by kernel_rfl) rfl #[.agg #[.slice Ao33 t215.length co33, .bool t218], .int .i64 1] rfl (by (try simp only [List.map_toArray, List.map_cons, List.map_nil]); first | done | rfl | (simp only [List.length_drop, List.length_take]; rfl)) ?_; (with_reducible refine (laws_markGraph.calls kj15 (fun k_ => some k_ = (.slice Ao33 t215.length co33 : Value).ownBlock) (.slice Ao33 t215.length co33) t215 t218 1 t239 t240 w _ ?side1 ?side2 A72.out).mono ?_); (case side1 => repeat (first | (with_reducible first | exact HB.out | apply below_alloc | apply pw_below_drewN | apply below_drew1 | refine below_set ?_ GE200.out | refine below_set ?_ GE214.out | refine below_set ?_ GE219.out | refine below_set ?_ GE228.out) | exact HB.out)); (case side2 => exact Kd.R_tight rfl HO_220000.out); rintro e w85 ⟨rfl, hy0, hb, hkp⟩; refine ⟨_, rfl, ?_⟩; have n0_ := Aside0.mk (Kd.R_mono (ok' := fun k_ => some k_ ≠ (.slice Ao27 t209.length co27 : Value).ownBlock ∧ some k_ ≠ (.slice Ao33 t215.length co33 : Value).ownBlock ∧ some k_ ≠ (.slice Ao42 t223.length co42 : Value).ownBlock ∧ some k_ ≠ (.slice Ao77 t230.length co77 : Value).ownBlock ∧ some k_ ≠ (.slice Ao80 t235.length co80 : Value).ownBlock) (Kd.R_keptB (HO_9.out) hkp (fun k_ hk_ hs_ => (hk_.1.1.2.1) hs_)) (fun k_ hk_ => ⟨hk_.1.1.1.1, hk_.1.1.1.2.1, hk_.1.1.1.2.2, hk_.1.1.2, hk_.1.2⟩)); have n1_ := Aside0.mk (Kd.R_mono (ok' := fun k_ => some k_ ≠ (.slice Ao39 t220.length co39 : Value).ownBlock ∧ some k_ ≠ (.slice Ao33 t215.length co33 : Value).ownBlock ∧ some k_ ≠ (.slice Ao42 t223.length co42 : Value).ownBlock ∧ some k_ ≠ (.slice Ao77 t230.length co77 : Value).ownBlock ∧ some k_ ≠ (.slice Ao80 t235.length co80 : Value).ownBlock) (Kd.R_keptB (HO_215000.out) hkp (fun k_ hk_ hs_ => (hk_.1.1.2.1) hs_)) (fun k_ hk_ => ⟨hk_.1.1.1.1, hk_.1.1.1.2.1, hk_.1.1.1.2.2, hk_.1.1.2, hk_.1.2⟩)); have n2_ := Aside0.mk (Kd.R_reok rfl hy0 (fun k_ e_ => HO_220000.out.1 k_ e_)); have n3_ := Aside0.mk (Kd.R_mono (ok' := fun k_ => some k_ ≠ (.slice Ao39 t220.length co39 : Value).ownBlock ∧ some k_ ≠ (.slice Ao27 t209.length co27 : Value).ownBlock ∧ some k_ ≠ (.slice Ao33 t215.length co33 : Value).ownBlock ∧ some k_ ≠ (.slice Ao77 t230.length co77 : Value).ownBlock ∧ some k_ ≠ (.slice Ao80 t235.length co80 : Value).ownBlock) (Kd.R_keptB (HO_229000.out) hkp (fun k_ hk_ hs_ => (hk_.1.1.2.2) hs_)) (fun k_ hk_ => ⟨hk_.1.1.1.1, hk_.1.1.1.2.1, hk_.1.1.1.2.2, hk_.1.1.2, hk_.1.2⟩)); have n4_ := Aside0.mk (blk_kept (g := gb200) (by first | exact BK200.out | ((with_reducible repeat (first | refine blk_drewN ?_ _ | refine blk_drew ?_ | refine blk_alloc ?_ _)); exact BK200.out)) hkp (Kd.R_ne HO_220000.out BK200.out (by decide))); have n5_ := Aside0.mk (blk_kept (g := gb214) (by first | exact BK214.out | ((with_reducible repeat (first | refine blk_drewN ?_ _ | refine blk_drew ?_ | refine blk_alloc ?_ _)); exact BK214.out)) hkp (Kd.R_ne HO_220000.out BK214.out (by decide))); have n6_ := Aside0.mk (blk_kept (g := gb219) (by first | exact BK219.out | ((with_reducible repeat (first | refine blk_drewN ?_ _ | refine blk_drew ?_ | refine blk_alloc ?_ _)); exact BK219.out)) hkp (Kd.R_ne HO_220000.out BK219.out (by decide))); have n7_ := Aside0.mk (blk_kept (g := gb228) (by first | exact BK228.out | ((with_reducible repeat (first | refine blk_drewN ?_ _ | refine blk_drew ?_ | refine blk_alloc ?_ _)); exact BK228.out)) hkp (Kd.R_ne HO_220000.out BK228.out (by decide))); have n8_ := Aside0.mk (Kd.R_mono (ok' := fun k_ => some k_ ≠ (.slice Ao39 t220.length co39 : Value).ownBlock ∧ some k_ ≠ (.slice Ao27 t209.length co27 : Value).ownBlock ∧ some k_ ≠ (.slice Ao33 t215.length co33 : Value).ownBlock ∧ some k_ ≠ (.slice Ao42 t223.length co42 : Value).ownBlock ∧ some k_ ≠ (.slice Ao80 t235.length co80 : Value).ownBlock) (Kd.R_keptB (HO232.out) hkp (fun k_ hk_ hs_ => (hk_.1.1.2) hs_)) (fun k_ hk_ => ⟨hk_.1.1.1.1.1.2, hk_.1.1.1.1.2, hk_.1.1.1.2, hk_.1.1.2, hk_.1.2⟩)); have n9_ := Aside0.mk (Kd.R_mono (ok' := fun k_ => some k_ ≠ (.slice Ao39 t220.length co39 : Value).ownBlock ∧ some k_ ≠ (.slice Ao27 t209.length co27 : Value).ownBlock ∧ some k_ ≠ (.slice Ao33 t215.length co33 : Value).ownBlock ∧ some k_ ≠ (.slice Ao42 t223.length co42 : Value).ownBlock ∧ some k_ ≠ (.slice Ao77 t230.length co77 : Value).ownBlock) (Kd.R_keptB (HO237.out) hkp (fun k_ hk_ hs_ => (hk_.1.1.2) hs_)) (fun k_ hk_ => ⟨hk_.1.1.1.1.1.2, hk_.1.1.1.1.2, hk_.1.1.1.2, hk_.1.1.2, hk_.1.2⟩)); have n10_ := Aside0.mk (hb); clear HO_9; clear HO_215000; clear HO_220000; clear HO_229000; clear BK200; clear BK214; clear BK219; clear BK228; clear HO232; clear HO237; clear HB; have HO_9 := n0_; have HO_215000 := n1_; have HO_220000 := n2_; have HO_229000 := n3_; have BK200 := n4_; have BK214 := n5_; have BK219 := n6_; have BK228 := n7_; have HO232 := n8_; have HO237 := n9_; have HB := n10_; clear n0_ n1_ n2_ n3_ n4_ n5_ n6_ n7_ n8_ n9_ n10_; (try clear hb); (try clear hkp); (try clear hy0)) | ((with_reducible refine gate_callee (f := 27) rfl ?_); refine goesL_ (some 67) rfl rfl Try.func27 (by kernel_rfl) rfl #[.slice Ao39 t220.length co39, .int .i64 t239] rfl (by (try simp only [List.map_toArray, List.map_cons, List.map_nil]); first | done | rfl | (simp only [List.length_drop, List.length_take]; rfl)) ?_; (with_reducible refine (laws_markIntS.calls kj15 (fun k_ => some k_ = (.slice Ao39 t220.length co39 : Value).ownBlock) (.slice Ao39 t220.length co39) t220 t239 t241 t242 w _ ?side1 ?side2 A73.out).mono ?_); (case side1 => repeat (first | (with_reducible first | exact HB.out | apply below_alloc | apply pw_below_drewN | apply below_drew1 | refine below_set ?_ GE200.out | refine below_set ?_ GE214.out | refine below_set ?_ GE219.out | refine below_set ?_ GE228.out) | exact HB.out)); (case side2 => exact Kd.R_tight rfl HO_9.out); rintro e w86 ⟨rfl, hy0, hb, hkp⟩; refine ⟨_, rfl, ?_⟩; have n0_ := Aside0.mk (Kd.R_reok rfl hy0 (fun k_ e_ => HO_9.out.1 k_ e_)); have n1_ := Aside0.mk (Kd.R_mono (ok' := fun k_ => some k_ ≠ (.slice Ao39 t220.length co39 : Value).ownBlock ∧ some k_ ≠ (.slice Ao33 t215.length co33 : Value).ownBlock ∧ some k_ ≠ (.slice Ao42 t223.length co42 : Value).ownBlock ∧ some k_ ≠ (.slice Ao77 t230.length co77 : Value).ownBlock ∧ some k_ ≠ (.slice Ao80 t235.length co80 : Value).ownBlock) (Kd.R_keptB (HO_215000.out) hkp (fun k_ hk_ hs_ => (hk_.1) hs_)) (fun k_ hk_ => ⟨hk_.1.1, hk_.1.2.1, hk_.1.2.2.1, hk_.1.2.2.2.1, hk_.1.2.2.2.2⟩)); have n2_ := Aside0.mk (Kd.R_mono (ok' := fun k_ => some k_ ≠ (.slice Ao39 t220.length co39 : Value).ownBlock ∧ some k_ ≠ (.slice Ao27 t209.length co27 : Value).ownBlock ∧ some k_ ≠ (.slice Ao42 t223.length co42 : Value).ownBlock ∧ some k_ ≠ (.slice Ao77 t230.length co77 : Value).ownBlock ∧ some k_ ≠ (.slice Ao80 t235.length co80 : Value).ownBlock) (Kd.R_keptB (HO_220000.out) hkp (fun k_ hk_ hs_ => (hk_.1.1.1) hs_)) (fun k_ hk_ => ⟨hk_.1.1.1.1, hk_.1.1.1.2.1, hk_.1.1.1.2.2, hk_.1.1.2, hk_.1.2⟩)); have n3_ := Aside0.mk (Kd.R_mono (ok' := fun k_ => some k_ ≠ (.slice Ao39 t220.length co39 : Value).ownBlock ∧ some k_ ≠ (.slice Ao27 t209.length co27 : Value).ownBlock ∧ some k_ ≠ (.slice Ao33 t215.length co33 : Value).ownBlock ∧ some k_ ≠ (.slice Ao77 t230.length co77 : Value).ownBlock ∧ some k_ ≠ (.slice Ao80 t235.length co80 : Value).ownBlock) (Kd.R_keptB (HO_229000.out) hkp (fun k_ hk_ hs_ => (hk_.1) hs_)) (fun k_ hk_ => ⟨hk_.1.1, hk_.1.2.1, hk_.1.2.2.1, hk_.1.2.2.2.1, hk_.1.2.2.2.2⟩)); have n4_ := Aside0.mk (blk_kept (g := gb200) (by first | exact BK200.out | ((with_reducible repeat (first | refine blk_drewN ?_ _ | refine blk_drew ?_ | refine blk_alloc ?_ _)); exact BK200.out)) hkp (Kd.R_ne HO_9.out BK200.out (by decide))); have n5_ := Aside0.mk (blk_kept (g := gb214) (by first | exact BK214.out | ((with_reducible repeat (first | refine blk_drewN ?_ _ | refine blk_drew ?_ | refine blk_alloc ?_ _)); exact BK214.out)) hkp (Kd.R_ne HO_9.out BK214.out (by decide))); have n6_ := Aside0.mk (blk_kept (g := gb219) (by first | exact BK219.out | ((with_reducible repeat (first | refine blk_drewN ?_ _ | refine blk_drew ?_ | refine blk_alloc ?_ _)); exact BK219.out)) hkp (Kd.R_ne HO_9.out BK219.out (by decide))); have n7_ := Aside0.mk (blk_kept (g := gb228) (by first | exact BK228.out | ((with_reducible repeat (first | refine blk_drewN ?_ _ | refine blk_drew ?_ | refine blk_alloc ?_ _)); exact BK228.out)) hkp (Kd.R_ne HO_9.out BK228.out (by decide))); have n8_ := Aside0.mk (Kd.R_mono (ok' := fun k_ => some k_ ≠ (.slice Ao39 t220.length co39 : Value).ownBlock ∧ some k_ ≠ (.slice Ao27 t209.length co27 : Value).ownBlock ∧ some k_ ≠ (.slice Ao33 t215.length co33 : Value).ownBlock ∧ some k_ ≠ (.slice Ao42 t223.length co42 : Value).ownBlock ∧ some k_ ≠ (.slice Ao80 t235.length co80 : Value).ownBlock) (Kd.R_keptB (HO232.out) hkp (fun k_ hk_ hs_ => (hk_.1) hs_)) (fun k_ hk_ => ⟨hk_.1.1, hk_.1.2.1, hk_.1.2.2.1, hk_.1.2.2.2.1, hk_.1.2.2.2.2⟩)); have n9_ := Aside0.mk (Kd.R_mono (ok' := fun k_ => some k_ ≠ (.slice Ao39 t220.length co39 : Value).ownBlock ∧ some k_ ≠ (.slice Ao27 t209.length co27 : Value).ownBlock ∧ some k_ ≠ (.slice Ao33 t215.length co33 : Value).ownBlock ∧ some k_ ≠ (.slice Ao42 t223.length co42 : Value).ownBlock ∧ some k_ ≠ (.slice Ao77 t230.length co77 : Value).ownBlock) (Kd.R_keptB (HO237.out) hkp (fun k_ hk_ hs_ => (hk_.1) hs_)) (fun k_ hk_ => ⟨hk_.1.1, hk_.1.2.1, hk_.1.2.2.1, hk_.1.2.2.2.1, hk_.1.2.2.2.2⟩)); have n10_ := Aside0.mk (hb); clear HO_9; clear HO_215000; clear HO_220000; clear HO_229000; clear BK200; clear BK214; clear BK219; clear BK228; clear HO232; clear HO237; clear HB; have HO_9 := n0_; have HO_215000 := n1_; have HO_220000 := n2_; have HO_229000 := n3_; have BK200 := n4_; have BK214 := n5_; have BK219 := n6_; have BK228 := n7_; have HO232 := n8_; have HO237 := n9_; have HB := n10_; clear n0_ n1_ n2_ n3_ n4_ n5_ n6_ n7_ n8_ n9_ n10_; (try clear hb); (try clear hkp); (try clear hy0)))
                (try simp only [Act.put, List.setIfInBounds_toArray, List.set_cons_zero, List.set_cons_succ])
                go_cut [80] (fun v80 wc => ∃ (kq : Nat) (x80_73 : Bool), v80 = .bool x80_73 ∧ Aside0 (laws_FnExactRenameGraph.j1 kq l1 t213 x80_73 l0_0 a0_1 t209 t212 t223 t226 = some r) ∧ Aside0 (kq ≤ kj15) ∧ Aside0 (Kd.R (Kd.int .i64) 3 wc w.heap.size (fun k_ => some k_ ≠ ((.slice Ao33 t215.length co33) : Value).ownBlock ∧ some k_ ≠ ((.slice Ao42 t223.length co42) : Value).ownBlock) (.slice Ao27 t209.length co27) t209) ∧ Aside0 (Kd.R (Kd.int .i64) 3 wc w.heap.size (fun k_ => some k_ ≠ ((.slice Ao27 t209.length co27) : Value).ownBlock ∧ some k_ ≠ ((.slice Ao42 t223.length co42) : Value).ownBlock) (.slice Ao33 t215.length co33) t240) ∧ Aside0 (Kd.R (Kd.int .i64) 3 wc w.heap.size (fun k_ => some k_ ≠ ((.slice Ao27 t209.length co27) : Value).ownBlock ∧ some k_ ≠ ((.slice Ao33 t215.length co33) : Value).ownBlock) (.slice Ao42 t223.length co42) t223) ∧ Aside0 (wc.heap[gb200]? = some (.cells #[(.slice A0_0 l0_0.length c0_0), .bool a0_1] 24 (0, 0))) ∧ Aside0 (wc.heap[gb214]? = some (.cells #[(.slice Ao27 t209.length co27), .bool t212] 26 (0, 0))) ∧ Aside0 (wc.heap[gb219]? = some (.cells #[(.slice Ao33 t215.length co33), .bool t218] 26 (0, 0))) ∧ Aside0 (wc.heap[gb228]? = some (.cells #[(.slice Ao42 t223.length co42), .bool t226] 26 (0, 0))) ∧ Aside0 (Below w.heap.size w wc))
                case first => as_aux_lemma =>
                  have H := HC74.out
                  clear HC74
                  by_cases c87 : t241 < 0
                  · rw [if_pos c87] at H
                    have c87b0 : decide (t241 < 0) = true := decide_eq_true c87
                    clear c87
                    (first | rw [c87b0] | (simp only [i64_w, i32_w]; rw [c87b0]) | skip)
                    have H' := Aside0.mk H
                    clear H
                    go_wp2
                    go_meet
                    case rel => exact ⟨_, (true), (by first | rfl | (simp; done) | (simp [*]; done)), H', ⟨by have := HJ15.out; first | omega | exact Nat.le_refl _⟩, ⟨by (with_reducible repeat (first | apply Kd.R_alloc | apply Kd.R_drewN | apply Kd.R_drew)); exact Kd.R_mono HO_215000.out (fun _ hk => ⟨hk.2.1, hk.2.2.1⟩)⟩, ⟨by (with_reducible repeat (first | apply Kd.R_alloc | apply Kd.R_drewN | apply Kd.R_drew)); exact Kd.R_mono HO_220000.out (fun _ hk => ⟨hk.2.1, hk.2.2.1⟩)⟩, ⟨by (with_reducible repeat (first | apply Kd.R_alloc | apply Kd.R_drewN | apply Kd.R_drew)); exact Kd.R_mono HO_229000.out (fun _ hk => ⟨hk.2.1, hk.2.2.1⟩)⟩, ⟨by (with_reducible repeat (first | refine blk_drewN ?_ _ | refine blk_drew ?_ | refine blk_alloc ?_ _)); exact BK200.out⟩, ⟨by (with_reducible repeat (first | refine blk_drewN ?_ _ | refine blk_drew ?_ | refine blk_alloc ?_ _)); exact BK214.out⟩, ⟨by (with_reducible repeat (first | refine blk_drewN ?_ _ | refine blk_drew ?_ | refine blk_alloc ?_ _)); exact BK219.out⟩, ⟨by (with_reducible repeat (first | refine blk_drewN ?_ _ | refine blk_drew ?_ | refine blk_alloc ?_ _)); exact BK228.out⟩, ⟨by repeat (first | (with_reducible first | exact HB.out | apply below_alloc | apply pw_below_drewN | apply below_drew1 | refine below_set ?_ GE200.out | refine below_set ?_ GE214.out | refine below_set ?_ GE219.out | refine below_set ?_ GE228.out) | exact HB.out)⟩⟩
                  · rw [if_neg c87] at H
                    have c87b0 : decide (t241 < 0) = false := decide_eq_false c87
                    clear c87
                    (first | rw [c87b0] | (simp only [i64_w, i32_w]; rw [c87b0]) | skip)
                    replace H := Option.bind_eq_some_iff.mp H
                    obtain ⟨t243, A880, H⟩ := H
                    replace H : (if t243 = true then (laws_FnExactRenameGraph.j1 kj15 l1 t213 (t227 != t213) l0_0 a0_1 t209 t212 t223 t226) else (laws_FnExactRenameGraph.j1 kj15 l1 t213 true l0_0 a0_1 t209 t212 t223 t226)) = some r := H
                    have A88 := Aside0.mk A880
                    clear A880
                    by_cases c89 : t243 = true
                    · subst c89
                      have H1 : (laws_FnExactRenameGraph.j1 kj15 l1 t213 (t227 != t213) l0_0 a0_1 t209 t212 t223 t226) = some r := by rw [if_pos rfl] at H; exact H
                      clear H
                      have H := H1
                      clear H1
                      have H' := Aside0.mk H
                      clear H
                      have hnb90 := NB228_200.out
                      have hnc90 := NB200_228.out
                      have hnb91 := NB228_214.out
                      have hnc91 := NB214_228.out
                      have hnb92 := NB228_219.out
                      have hnc92 := NB219_228.out
                      have hcz93_0 : w86.cell? ⟨gb228, 0, none⟩ = some (.slice Ao42 t223.length co42) := (blk_cell BK228.out 0).trans rfl
                      have hcz93_1 : w86.cell? ⟨gb228, 1, none⟩ = some (.bool t226) := (blk_cell BK228.out 1).trans rfl
                      have hfz93_0 := blk_frozen BK228.out 0
                      have hfz93_1 := blk_frozen BK228.out 1
                      have hnb94 := NB214_200.out
                      have hnc94 := NB200_214.out
                      have hnb95 := NB214_219.out
                      have hnc95 := NB219_214.out
                      have hcz96_0 : w86.cell? ⟨gb214, 0, none⟩ = some (.slice Ao27 t209.length co27) := (blk_cell BK214.out 0).trans rfl
                      have hcz96_1 : w86.cell? ⟨gb214, 1, none⟩ = some (.bool t212) := (blk_cell BK214.out 1).trans rfl
                      have hfz96_0 := blk_frozen BK214.out 0
                      have hfz96_1 := blk_frozen BK214.out 1
                      go_wp2_with (first | (go_at_call 11; (with_reducible refine (laws_eqGraph.calls kj15 _ _ t223 t226 _ _ t209 t212 true _ ?side1 ?side2 ?side3 ?side4 A88.out).mono ?_); (case side1 => repeat (first | exact (Kd.R_reads' HO_229000.out).2.2 | (with_reducible refine Kd.C_alloc ?_ _) | (with_reducible refine Kd.C_drewN ?_ _) | (with_reducible refine Kd.C_drew ?_))); (case side2 => exact (Kd.R_reads' HO_229000.out).2.1); (case side3 => repeat (first | exact (Kd.R_reads' HO_215000.out).2.2 | (with_reducible refine Kd.C_alloc ?_ _) | (with_reducible refine Kd.C_drewN ?_ _) | (with_reducible refine Kd.C_drew ?_))); (case side4 => exact (Kd.R_reads' HO_215000.out).2.1); rintro e w97 ⟨rfl, hb⟩; have n0_ := Aside0.mk (Kd.R_below (by (with_reducible repeat (first | apply Kd.R_alloc | apply Kd.R_drewN | apply Kd.R_drew)); exact HO_9.out) hb); have n1_ := Aside0.mk (Kd.R_below (by (with_reducible repeat (first | apply Kd.R_alloc | apply Kd.R_drewN | apply Kd.R_drew)); exact HO_215000.out) hb); have n2_ := Aside0.mk (Kd.R_below (by (with_reducible repeat (first | apply Kd.R_alloc | apply Kd.R_drewN | apply Kd.R_drew)); exact HO_220000.out) hb); have n3_ := Aside0.mk (Kd.R_below (by (with_reducible repeat (first | apply Kd.R_alloc | apply Kd.R_drewN | apply Kd.R_drew)); exact HO_229000.out) hb); have n4_ := Aside0.mk (Kd.R_below (by (with_reducible repeat (first | apply Kd.R_alloc | apply Kd.R_drewN | apply Kd.R_drew)); exact HO232.out) hb); have n5_ := Aside0.mk (Kd.R_below (by (with_reducible repeat (first | apply Kd.R_alloc | apply Kd.R_drewN | apply Kd.R_drew)); exact HO237.out) hb); have n6_ := Aside0.mk (blk_below (g := gb200) (o := .cells #[.slice A0_0 l0_0.length c0_0, .bool a0_1] 24 (0, 0)) (by (with_reducible repeat (first | refine blk_drewN ?_ _ | refine blk_drew ?_ | refine blk_alloc ?_ _)); exact BK200.out) hb); have n7_ := Aside0.mk (blk_below (g := gb214) (o := .cells #[.slice Ao27 t209.length co27, .bool t212] 26 (0, 0)) (by (with_reducible repeat (first | refine blk_drewN ?_ _ | refine blk_drew ?_ | refine blk_alloc ?_ _)); exact BK214.out) hb); have n8_ := Aside0.mk (blk_below (g := gb219) (o := .cells #[.slice Ao33 t215.length co33, .bool t218] 26 (0, 0)) (by (with_reducible repeat (first | refine blk_drewN ?_ _ | refine blk_drew ?_ | refine blk_alloc ?_ _)); exact BK219.out) hb); have n9_ := Aside0.mk (blk_below (g := gb228) (o := .cells #[.slice Ao42 t223.length co42, .bool t226] 26 (0, 0)) (by (with_reducible repeat (first | refine blk_drewN ?_ _ | refine blk_drew ?_ | refine blk_alloc ?_ _)); exact BK228.out) hb); have n10_ := Aside0.mk (below_step (by repeat (first | (with_reducible first | exact HB.out | apply below_alloc | apply pw_below_drewN | apply below_drew1 | refine below_set ?_ GE200.out | refine below_set ?_ GE214.out | refine below_set ?_ GE219.out | refine below_set ?_ GE228.out) | exact HB.out)) hb); clear HO_9; clear HO_215000; clear HO_220000; clear HO_229000; clear HO232; clear HO237; clear BK200; clear BK214; clear BK219; clear BK228; clear HB; have HO_9 := n0_; have HO_215000 := n1_; have HO_220000 := n2_; have HO_229000 := n3_; have HO232 := n4_; have HO237 := n5_; have BK200 := n6_; have BK214 := n7_; have BK219 := n8_; have BK228 := n9_; have HB := n10_; clear n0_ n1_ n2_ n3_ n4_ n5_ n6_ n7_ n8_ n9_ n10_; (try clear hb); (try clear hb2); (try clear hk); (try clear hi)))
                      go_meet
                      case rel => exact ⟨_, ((t227 != t213)), (by first | rfl | (simp; done) | (simp [*]; done) | (simp; cases t227 <;> simp)), H', ⟨by have := HJ15.out; first | omega | exact Nat.le_refl _⟩, ⟨by (with_reducible repeat (first | apply Kd.R_alloc | apply Kd.R_drewN | apply Kd.R_drew)); exact Kd.R_mono HO_215000.out (fun _ hk => ⟨hk.2.1, hk.2.2.1⟩)⟩, ⟨by (with_reducible repeat (first | apply Kd.R_alloc | apply Kd.R_drewN | apply Kd.R_drew)); exact Kd.R_mono HO_220000.out (fun _ hk => ⟨hk.2.1, hk.2.2.1⟩)⟩, ⟨by (with_reducible repeat (first | apply Kd.R_alloc | apply Kd.R_drewN | apply Kd.R_drew)); exact Kd.R_mono HO_229000.out (fun _ hk => ⟨hk.2.1, hk.2.2.1⟩)⟩, ⟨by (with_reducible repeat (first | refine blk_drewN ?_ _ | refine blk_drew ?_ | refine blk_alloc ?_ _)); exact BK200.out⟩, ⟨by (with_reducible repeat (first | refine blk_drewN ?_ _ | refine blk_drew ?_ | refine blk_alloc ?_ _)); exact BK214.out⟩, ⟨by (with_reducible repeat (first | refine blk_drewN ?_ _ | refine blk_drew ?_ | refine blk_alloc ?_ _)); exact BK219.out⟩, ⟨by (with_reducible repeat (first | refine blk_drewN ?_ _ | refine blk_drew ?_ | refine blk_alloc ?_ _)); exact BK228.out⟩, ⟨by repeat (first | (with_reducible first | exact HB.out | apply below_alloc | apply pw_below_drewN | apply below_drew1 | refine below_set ?_ GE200.out | refine below_set ?_ GE214.out | refine below_set ?_ GE219.out | refine below_set ?_ GE228.out) | exact HB.out)⟩⟩
                    · replace c89 := Bool.eq_false_iff.mpr c89
                      subst c89
                      have H1 : (laws_FnExactRenameGraph.j1 kj15 l1 t213 true l0_0 a0_1 t209 t212 t223 t226) = some r := by rw [if_neg (show ¬ (false = true) by decide)] at H; exact H
                      clear H
                      have H := H1
                      clear H1
                      have H' := Aside0.mk H
                      clear H
                      have hnb98 := NB228_200.out
                      have hnc98 := NB200_228.out
                      have hnb99 := NB228_214.out
                      have hnc99 := NB214_228.out
                      have hnb100 := NB228_219.out
                      have hnc100 := NB219_228.out
                      have hcz101_0 : w86.cell? ⟨gb228, 0, none⟩ = some (.slice Ao42 t223.length co42) := (blk_cell BK228.out 0).trans rfl
                      have hcz101_1 : w86.cell? ⟨gb228, 1, none⟩ = some (.bool t226) := (blk_cell BK228.out 1).trans rfl
                      have hfz101_0 := blk_frozen BK228.out 0
                      have hfz101_1 := blk_frozen BK228.out 1
                      have hnb102 := NB214_200.out
                      have hnc102 := NB200_214.out
                      have hnb103 := NB214_219.out
                      have hnc103 := NB219_214.out
                      have hcz104_0 : w86.cell? ⟨gb214, 0, none⟩ = some (.slice Ao27 t209.length co27) := (blk_cell BK214.out 0).trans rfl
                      have hcz104_1 : w86.cell? ⟨gb214, 1, none⟩ = some (.bool t212) := (blk_cell BK214.out 1).trans rfl
                      have hfz104_0 := blk_frozen BK214.out 0
                      have hfz104_1 := blk_frozen BK214.out 1
                      go_wp2_with (first | (go_at_call 11; (with_reducible refine (laws_eqGraph.calls kj15 _ _ t223 t226 _ _ t209 t212 false _ ?side1 ?side2 ?side3 ?side4 A88.out).mono ?_); (case side1 => repeat (first | exact (Kd.R_reads' HO_229000.out).2.2 | (with_reducible refine Kd.C_alloc ?_ _) | (with_reducible refine Kd.C_drewN ?_ _) | (with_reducible refine Kd.C_drew ?_))); (case side2 => exact (Kd.R_reads' HO_229000.out).2.1); (case side3 => repeat (first | exact (Kd.R_reads' HO_215000.out).2.2 | (with_reducible refine Kd.C_alloc ?_ _) | (with_reducible refine Kd.C_drewN ?_ _) | (with_reducible refine Kd.C_drew ?_))); (case side4 => exact (Kd.R_reads' HO_215000.out).2.1); rintro e w105 ⟨rfl, hb⟩; have n0_ := Aside0.mk (Kd.R_below (by (with_reducible repeat (first | apply Kd.R_alloc | apply Kd.R_drewN | apply Kd.R_drew)); exact HO_9.out) hb); have n1_ := Aside0.mk (Kd.R_below (by (with_reducible repeat (first | apply Kd.R_alloc | apply Kd.R_drewN | apply Kd.R_drew)); exact HO_215000.out) hb); have n2_ := Aside0.mk (Kd.R_below (by (with_reducible repeat (first | apply Kd.R_alloc | apply Kd.R_drewN | apply Kd.R_drew)); exact HO_220000.out) hb); have n3_ := Aside0.mk (Kd.R_below (by (with_reducible repeat (first | apply Kd.R_alloc | apply Kd.R_drewN | apply Kd.R_drew)); exact HO_229000.out) hb); have n4_ := Aside0.mk (Kd.R_below (by (with_reducible repeat (first | apply Kd.R_alloc | apply Kd.R_drewN | apply Kd.R_drew)); exact HO232.out) hb); have n5_ := Aside0.mk (Kd.R_below (by (with_reducible repeat (first | apply Kd.R_alloc | apply Kd.R_drewN | apply Kd.R_drew)); exact HO237.out) hb); have n6_ := Aside0.mk (blk_below (g := gb200) (o := .cells #[.slice A0_0 l0_0.length c0_0, .bool a0_1] 24 (0, 0)) (by (with_reducible repeat (first | refine blk_drewN ?_ _ | refine blk_drew ?_ | refine blk_alloc ?_ _)); exact BK200.out) hb); have n7_ := Aside0.mk (blk_below (g := gb214) (o := .cells #[.slice Ao27 t209.length co27, .bool t212] 26 (0, 0)) (by (with_reducible repeat (first | refine blk_drewN ?_ _ | refine blk_drew ?_ | refine blk_alloc ?_ _)); exact BK214.out) hb); have n8_ := Aside0.mk (blk_below (g := gb219) (o := .cells #[.slice Ao33 t215.length co33, .bool t218] 26 (0, 0)) (by (with_reducible repeat (first | refine blk_drewN ?_ _ | refine blk_drew ?_ | refine blk_alloc ?_ _)); exact BK219.out) hb); have n9_ := Aside0.mk (blk_below (g := gb228) (o := .cells #[.slice Ao42 t223.length co42, .bool t226] 26 (0, 0)) (by (with_reducible repeat (first | refine blk_drewN ?_ _ | refine blk_drew ?_ | refine blk_alloc ?_ _)); exact BK228.out) hb); have n10_ := Aside0.mk (below_step (by repeat (first | (with_reducible first | exact HB.out | apply below_alloc | apply pw_below_drewN | apply below_drew1 | refine below_set ?_ GE200.out | refine below_set ?_ GE214.out | refine below_set ?_ GE219.out | refine below_set ?_ GE228.out) | exact HB.out)) hb); clear HO_9; clear HO_215000; clear HO_220000; clear HO_229000; clear HO232; clear HO237; clear BK200; clear BK214; clear BK219; clear BK228; clear HB; have HO_9 := n0_; have HO_215000 := n1_; have HO_220000 := n2_; have HO_229000 := n3_; have HO232 := n4_; have HO237 := n5_; have BK200 := n6_; have BK214 := n7_; have BK219 := n8_; have BK228 := n9_; have HB := n10_; clear n0_ n1_ n2_ n3_ n4_ n5_ n6_ n7_ n8_ n9_ n10_; (try clear hb); (try clear hb2); (try clear hk); (try clear hi)))
                      go_meet
                      case rel => exact ⟨_, (true), (by first | rfl | (simp; done) | (simp [*]; done)), H', ⟨by have := HJ15.out; first | omega | exact Nat.le_refl _⟩, ⟨by (with_reducible repeat (first | apply Kd.R_alloc | apply Kd.R_drewN | apply Kd.R_drew)); exact Kd.R_mono HO_215000.out (fun _ hk => ⟨hk.2.1, hk.2.2.1⟩)⟩, ⟨by (with_reducible repeat (first | apply Kd.R_alloc | apply Kd.R_drewN | apply Kd.R_drew)); exact Kd.R_mono HO_220000.out (fun _ hk => ⟨hk.2.1, hk.2.2.1⟩)⟩, ⟨by (with_reducible repeat (first | apply Kd.R_alloc | apply Kd.R_drewN | apply Kd.R_drew)); exact Kd.R_mono HO_229000.out (fun _ hk => ⟨hk.2.1, hk.2.2.1⟩)⟩, ⟨by (with_reducible repeat (first | refine blk_drewN ?_ _ | refine blk_drew ?_ | refine blk_alloc ?_ _)); exact BK200.out⟩, ⟨by (with_reducible repeat (first | refine blk_drewN ?_ _ | refine blk_drew ?_ | refine blk_alloc ?_ _)); exact BK214.out⟩, ⟨by (with_reducible repeat (first | refine blk_drewN ?_ _ | refine blk_drew ?_ | refine blk_alloc ?_ _)); exact BK219.out⟩, ⟨by (with_reducible repeat (first | refine blk_drewN ?_ _ | refine blk_drew ?_ | refine blk_alloc ?_ _)); exact BK228.out⟩, ⟨by repeat (first | (with_reducible first | exact HB.out | apply below_alloc | apply pw_below_drewN | apply below_drew1 | refine below_set ?_ GE200.out | refine below_set ?_ GE214.out | refine below_set ?_ GE219.out | refine below_set ?_ GE228.out) | exact HB.out)⟩⟩
                case rest => as_aux_lemma =>
                  clear HC74
                  try clear c1
                  try clear c2
                  try clear p2
                  try clear c3
                  try clear c3b0
                  try clear c3b1
                  try clear c4
                  try clear c5
                  try clear c6
                  try clear c6b0
                  try clear c7
                  try clear c8
                  try clear c9
                  try clear c10
                  try clear c11
                  try clear c12
                  try clear c23
                  try clear c24
                  try clear c25
                  try clear c26
                  try clear c27
                  try clear c28
                  try clear c34
                  try clear c35
                  try clear c43
                  try clear c44
                  try clear c45
                  try clear c48
                  try clear c49
                  try clear c50
                  try clear c51
                  try clear c53
                  try clear c54
                  try clear c57
                  try clear c58
                  try clear c59
                  try clear c61
                  try clear c62
                  try clear c65
                  try clear c68
                  try clear c71
                  try clear c81
                  try clear c82
                  try clear c83
                  try clear c87
                  try clear c87b0
                  try clear c89
                  try clear c90
                  try clear c91
                  try clear c92
                  try clear c94
                  try clear c95
                  try clear c98
                  try clear c99
                  try clear c100
                  try clear c102
                  try clear c103
                  try clear hcz101_0
                  try clear hcz101_1
                  try clear hcz104_0
                  try clear hcz104_1
                  try clear hcz18_0
                  try clear hcz18_1
                  try clear hcz20_0
                  try clear hcz20_1
                  try clear hcz29_0
                  try clear hcz29_1
                  try clear hcz30_0
                  try clear hcz30_1
                  try clear hcz36_0
                  try clear hcz36_1
                  try clear hcz38_0
                  try clear hcz38_1
                  try clear hcz46_0
                  try clear hcz46_1
                  try clear hcz52_0
                  try clear hcz52_1
                  try clear hcz55_0
                  try clear hcz55_1
                  try clear hcz60_0
                  try clear hcz60_1
                  try clear hcz63_0
                  try clear hcz63_1
                  try clear hcz84_0
                  try clear hcz84_1
                  try clear hcz8_0
                  try clear hcz8_1
                  try clear hcz93_0
                  try clear hcz93_1
                  try clear hcz96_0
                  try clear hcz96_1
                  try clear hfz101_0
                  try clear hfz101_1
                  try clear hfz104_0
                  try clear hfz104_1
                  try clear hfz18_0
                  try clear hfz18_1
                  try clear hfz20_0
                  try clear hfz20_1
                  try clear hfz29_0
                  try clear hfz29_1
                  try clear hfz30_0
                  try clear hfz30_1
                  try clear hfz36_0
                  try clear hfz36_1
                  try clear hfz38_0
                  try clear hfz38_1
                  try clear hfz46_0
                  try clear hfz46_1
                  try clear hfz52_0
                  try clear hfz52_1
                  try clear hfz55_0
                  try clear hfz55_1
                  try clear hfz60_0
                  try clear hfz60_1
                  try clear hfz63_0
                  try clear hfz63_1
                  try clear hfz84_0
                  try clear hfz84_1
                  try clear hfz8_0
                  try clear hfz8_1
                  try clear hfz93_0
                  try clear hfz93_1
                  try clear hfz96_0
                  try clear hfz96_1
                  try clear p2
                  obtain ⟨kq, x80_73, rfl, HA, HJ73, HO_215000, HO_220000, HO_229000, BK200, BK214, BK219, BK228, HB⟩ := hcut
                  have hl220000_73 := (Kd.R_reads' HO_220000.out).1
                  rw [hl220000_73] at HO_220000
                  (try simp only [hl220000_73])
                  (try simp only [hl220000_73] at BK200)
                  (try simp only [hl220000_73] at BK214)
                  (try simp only [hl220000_73] at BK219)
                  (try simp only [hl220000_73] at BK228)
                  (try simp only [hl220000_73] at HO_215000)
                  (try simp only [hl220000_73] at HO_229000)
                  cases kq with
                  | zero => exact absurd HA.out (by simp [laws_FnExactRenameGraph.j1])
                  | succ kj73 =>
                    have H := HA.out
                    clear HA
                    simp only [laws_FnExactRenameGraph.j1] at H
                    by_cases c106 : x80_73 = true
                    · subst c106
                      have H1 : (some false) = some r := by rw [if_pos rfl] at H; exact H
                      clear H
                      have H := H1
                      clear H1
                      obtain rfl := Option.some.inj H
                      go_wp2
                      go_ret
                      exact ⟨by first | rfl | (simp [errW_none, errW_some] <;> rfl) | (simp [*, errW_none, errW_some] <;> rfl), by repeat (first | (with_reducible first | exact HB.out | apply below_alloc | apply pw_below_drewN | apply below_drew1 | refine below_set ?_ GE200.out | refine below_set ?_ GE214.out | refine below_set ?_ GE219.out | refine below_set ?_ GE228.out) | exact HB.out)⟩
                    · replace c106 := Bool.eq_false_iff.mpr c106
                      subst c106
                      have H1 : ((laws_markGraph.f kj73 t223 t226 1).bind fun bt244 => ((laws_heldGraph.f kj73 bt244.2 t226 1).bind fun t246 => (if t246 < 0 then (some false) else (if t246 = bt244.1 then ((laws_toGraph.f kj73 l0_0 a0_1).bind fun bt247 => ((laws_toIntS.f kj73 l1).bind fun t251 => ((impl_RenameGraph.f kj73 bt247.1 bt247.2 t251).bind fun bt254 => ((laws_eqGraph.f kj73 bt254.1 bt254.2.1 t209 t212).bind fun t260 => (if t260 = true then (laws_FnExactRenameGraph.j2 kj73 bt244.1 (bt254.2.2 != t213) bt244.2 t226) else (laws_FnExactRenameGraph.j2 kj73 bt244.1 true bt244.2 t226)))))) else (some false))))) = some r := by rw [if_neg (show ¬ (false = true) by decide)] at H; exact H
                      clear H
                      have H := H1
                      clear H1
                      replace H := Option.bind_eq_some_iff.mp H
                      obtain ⟨⟨t244, t245⟩, A1070, H⟩ := H
                      replace H : ((laws_heldGraph.f kj73 t245 t226 1).bind fun t246 => (if t246 < 0 then (some false) else (if t246 = t244 then ((laws_toGraph.f kj73 l0_0 a0_1).bind fun bt247 => ((laws_toIntS.f kj73 l1).bind fun t251 => ((impl_RenameGraph.f kj73 bt247.1 bt247.2 t251).bind fun bt254 => ((laws_eqGraph.f kj73 bt254.1 bt254.2.1 t209 t212).bind fun t260 => (if t260 = true then (laws_FnExactRenameGraph.j2 kj73 t244 (bt254.2.2 != t213) t245 t226) else (laws_FnExactRenameGraph.j2 kj73 t244 true t245 t226)))))) else (some false)))) = some r := H
                      have A107 := Aside0.mk A1070
                      clear A1070
                      replace H := Option.bind_eq_some_iff.mp H
                      obtain ⟨t246, A1080, H⟩ := H
                      replace H : (if t246 < 0 then (some false) else (if t246 = t244 then ((laws_toGraph.f kj73 l0_0 a0_1).bind fun bt247 => ((laws_toIntS.f kj73 l1).bind fun t251 => ((impl_RenameGraph.f kj73 bt247.1 bt247.2 t251).bind fun bt254 => ((laws_eqGraph.f kj73 bt254.1 bt254.2.1 t209 t212).bind fun t260 => (if t260 = true then (laws_FnExactRenameGraph.j2 kj73 t244 (bt254.2.2 != t213) t245 t226) else (laws_FnExactRenameGraph.j2 kj73 t244 true t245 t226)))))) else (some false))) = some r := H
                      have A108 := Aside0.mk A1080
                      clear A1080
                      by_cases c109 : t246 < 0
                      · rw [if_pos c109] at H
                        have c109b0 : decide (t246 < 0) = true := decide_eq_true c109
                        clear c109
                        obtain rfl := Option.some.inj H
                        have hnb110 := NB228_200.out
                        have hnc110 := NB200_228.out
                        have hnb111 := NB228_214.out
                        have hnc111 := NB214_228.out
                        have hnb112 := NB228_219.out
                        have hnc112 := NB219_228.out
                        have hcz113_0 : wc.cell? ⟨gb228, 0, none⟩ = some (.slice Ao42 t223.length co42) := (blk_cell BK228.out 0).trans rfl
                        have hcz113_1 : wc.cell? ⟨gb228, 1, none⟩ = some (.bool t226) := (blk_cell BK228.out 1).trans rfl
                        have hfz113_0 := blk_frozen BK228.out 0
                        have hfz113_1 := blk_frozen BK228.out 1
                        go_wp2_with (first | ((with_reducible refine gate_callee (f := 12) rfl ?_); refine goesL_ (some 83) rfl rfl Try.func12 (by kernel_rfl) rfl #[.agg #[.slice Ao42 t223.length co42, .bool t226], .int .i64 1] rfl (by (try simp only [List.map_toArray, List.map_cons, List.map_nil]); first | done | rfl | (simp only [List.length_drop, List.length_take]; rfl)) ?_; (with_reducible refine (laws_markGraph.calls kj73 (fun k_ => some k_ = (.slice Ao42 t223.length co42 : Value).ownBlock) (.slice Ao42 t223.length co42) t223 t226 1 t244 t245 w _ ?side1 ?side2 A107.out).mono ?_); (case side1 => repeat (first | (with_reducible first | exact HB.out | apply below_alloc | apply pw_below_drewN | apply below_drew1 | refine below_set ?_ GE200.out | refine below_set ?_ GE214.out | refine below_set ?_ GE219.out | refine below_set ?_ GE228.out) | exact HB.out)); (case side2 => exact Kd.R_tight rfl HO_229000.out); rintro e w114 ⟨rfl, hy0, hb, hkp⟩; refine ⟨_, rfl, ?_⟩; have n0_ := Aside0.mk (Kd.R_mono (ok' := fun k_ => some k_ ≠ (.slice Ao33 t240.length co33 : Value).ownBlock ∧ some k_ ≠ (.slice Ao42 t223.length co42 : Value).ownBlock) (Kd.R_keptB (HO_215000.out) hkp (fun k_ hk_ hs_ => (hk_.2) hs_)) (fun k_ hk_ => ⟨hk_.1.1, hk_.1.2⟩)); have n1_ := Aside0.mk (Kd.R_mono (ok' := fun k_ => some k_ ≠ (.slice Ao27 t209.length co27 : Value).ownBlock ∧ some k_ ≠ (.slice Ao42 t223.length co42 : Value).ownBlock) (Kd.R_keptB (HO_220000.out) hkp (fun k_ hk_ hs_ => (hk_.2) hs_)) (fun k_ hk_ => ⟨hk_.1.1, hk_.1.2⟩)); have n2_ := Aside0.mk (Kd.R_reok rfl hy0 (fun k_ e_ => HO_229000.out.1 k_ e_)); have n3_ := Aside0.mk (blk_kept (g := gb200) (by first | exact BK200.out | ((with_reducible repeat (first | refine blk_drewN ?_ _ | refine blk_drew ?_ | refine blk_alloc ?_ _)); exact BK200.out)) hkp (Kd.R_ne HO_229000.out BK200.out (by decide))); have n4_ := Aside0.mk (blk_kept (g := gb214) (by first | exact BK214.out | ((with_reducible repeat (first | refine blk_drewN ?_ _ | refine blk_drew ?_ | refine blk_alloc ?_ _)); exact BK214.out)) hkp (Kd.R_ne HO_229000.out BK214.out (by decide))); have n5_ := Aside0.mk (blk_kept (g := gb219) (by first | exact BK219.out | ((with_reducible repeat (first | refine blk_drewN ?_ _ | refine blk_drew ?_ | refine blk_alloc ?_ _)); exact BK219.out)) hkp (Kd.R_ne HO_229000.out BK219.out (by decide))); have n6_ := Aside0.mk (blk_kept (g := gb228) (by first | exact BK228.out | ((with_reducible repeat (first | refine blk_drewN ?_ _ | refine blk_drew ?_ | refine blk_alloc ?_ _)); exact BK228.out)) hkp (Kd.R_ne HO_229000.out BK228.out (by decide))); have n7_ := Aside0.mk (hb); clear HO_215000; clear HO_220000; clear HO_229000; clear BK200; clear BK214; clear BK219; clear BK228; clear HB; have HO_215000 := n0_; have HO_220000 := n1_; have HO_229000 := n2_; have BK200 := n3_; have BK214 := n4_; have BK219 := n5_; have BK228 := n6_; have HB := n7_; clear n0_ n1_ n2_ n3_ n4_ n5_ n6_ n7_; (try clear hb); (try clear hkp); (try clear hy0); have hcz115_0 : w114.cell? ⟨gb228, 0, none⟩ = some (.slice Ao42 t223.length co42) := (blk_cell BK228.out 0).trans rfl; have hcz115_1 : w114.cell? ⟨gb228, 1, none⟩ = some (.bool t226) := (blk_cell BK228.out 1).trans rfl; have hfz115_0 := blk_frozen BK228.out 0; have hfz115_1 := blk_frozen BK228.out 1) | ((with_reducible refine gate_callee (f := 13) rfl ?_); refine goesL_ (some 86) rfl rfl Try.func13 (by kernel_rfl) rfl #[.agg #[.slice Ao42 t245.length co42, .bool t226], .int .i64 1] rfl (by (try simp only [List.map_toArray, List.map_cons, List.map_nil]); first | done | (rw [show t245.length = t223.length from (Kd.R_reads' HO_229000.out).1.symm] <;> rfl) | rfl | (simp only [List.length_drop, List.length_take]; rfl)) ?_; (with_reducible refine (laws_heldGraph.calls kj73 _ _ t245 t226 1 t246 _ ?side1 ?side2 A108.out).mono ?_); (case side1 => repeat (first | exact (Kd.R_reads' HO_229000.out).2.2 | (with_reducible refine Kd.C_alloc ?_ _) | (with_reducible refine Kd.C_drewN ?_ _) | (with_reducible refine Kd.C_drew ?_))); (case side2 => rw [show t245.length = t223.length from (Kd.R_reads' HO_229000.out).1.symm]; exact (Kd.R_reads' HO_229000.out).2.1); rintro e w116 ⟨rfl, hb⟩; refine ⟨_, rfl, ?_⟩; have n0_ := Aside0.mk (Kd.R_below (by (with_reducible repeat (first | apply Kd.R_alloc | apply Kd.R_drewN | apply Kd.R_drew)); exact HO_215000.out) hb); have n1_ := Aside0.mk (Kd.R_below (by (with_reducible repeat (first | apply Kd.R_alloc | apply Kd.R_drewN | apply Kd.R_drew)); exact HO_220000.out) hb); have n2_ := Aside0.mk (Kd.R_below (by (with_reducible repeat (first | apply Kd.R_alloc | apply Kd.R_drewN | apply Kd.R_drew)); exact HO_229000.out) hb); have n3_ := Aside0.mk (blk_below (g := gb200) (o := .cells #[.slice A0_0 l0_0.length c0_0, .bool a0_1] 24 (0, 0)) (by (with_reducible repeat (first | refine blk_drewN ?_ _ | refine blk_drew ?_ | refine blk_alloc ?_ _)); exact BK200.out) hb); have n4_ := Aside0.mk (blk_below (g := gb214) (o := .cells #[.slice Ao27 t209.length co27, .bool t212] 26 (0, 0)) (by (with_reducible repeat (first | refine blk_drewN ?_ _ | refine blk_drew ?_ | refine blk_alloc ?_ _)); exact BK214.out) hb); have n5_ := Aside0.mk (blk_below (g := gb219) (o := .cells #[.slice Ao33 t240.length co33, .bool t218] 26 (0, 0)) (by (with_reducible repeat (first | refine blk_drewN ?_ _ | refine blk_drew ?_ | refine blk_alloc ?_ _)); exact BK219.out) hb); have n6_ := Aside0.mk (blk_below (g := gb228) (o := .cells #[.slice Ao42 t223.length co42, .bool t226] 26 (0, 0)) (by (with_reducible repeat (first | refine blk_drewN ?_ _ | refine blk_drew ?_ | refine blk_alloc ?_ _)); exact BK228.out) hb); have n7_ := Aside0.mk (below_step (by repeat (first | (with_reducible first | exact HB.out | apply below_alloc | apply pw_below_drewN | apply below_drew1 | refine below_set ?_ GE200.out | refine below_set ?_ GE214.out | refine below_set ?_ GE219.out | refine below_set ?_ GE228.out) | exact HB.out)) hb); clear HO_215000; clear HO_220000; clear HO_229000; clear BK200; clear BK214; clear BK219; clear BK228; clear HB; have HO_215000 := n0_; have HO_220000 := n1_; have HO_229000 := n2_; have BK200 := n3_; have BK214 := n4_; have BK219 := n5_; have BK228 := n6_; have HB := n7_; clear n0_ n1_ n2_ n3_ n4_ n5_ n6_ n7_; (try clear hb); (try clear hb2); (try clear hk); (try clear hi)))
                        go_ret
                        exact ⟨by first | rfl | (simp [errW_none, errW_some] <;> rfl) | (simp [*, errW_none, errW_some] <;> rfl), by repeat (first | (with_reducible first | exact HB.out | apply below_alloc | apply pw_below_drewN | apply below_drew1 | refine below_set ?_ GE200.out | refine below_set ?_ GE214.out | refine below_set ?_ GE219.out | refine below_set ?_ GE228.out) | exact HB.out)⟩
                      · rw [if_neg c109] at H
                        have c109b0 : decide (t246 < 0) = false := decide_eq_false c109
                        clear c109
                        by_cases c117 : t246 = t244
                        · rw [if_pos c117] at H
                          have c117b0 : (t246 == t244) = true := beq_iff_eq.mpr c117
                          have c117b1 : (t246 != t244) = false := bne_eq_false_iff_eq.mpr c117
                          clear c117
                          replace H := Option.bind_eq_some_iff.mp H
                          obtain ⟨⟨t247, t250⟩, A1180, H⟩ := H
                          replace H : ((laws_toIntS.f kj73 l1).bind fun t251 => ((impl_RenameGraph.f kj73 t247 t250 t251).bind fun bt254 => ((laws_eqGraph.f kj73 bt254.1 bt254.2.1 t209 t212).bind fun t260 => (if t260 = true then (laws_FnExactRenameGraph.j2 kj73 t244 (bt254.2.2 != t213) t245 t226) else (laws_FnExactRenameGraph.j2 kj73 t244 true t245 t226))))) = some r := H
                          have A118 := Aside0.mk A1180
                          clear A1180
                          replace H := Option.bind_eq_some_iff.mp H
                          obtain ⟨t251, A1190, H⟩ := H
                          replace H : ((impl_RenameGraph.f kj73 t247 t250 t251).bind fun bt254 => ((laws_eqGraph.f kj73 bt254.1 bt254.2.1 t209 t212).bind fun t260 => (if t260 = true then (laws_FnExactRenameGraph.j2 kj73 t244 (bt254.2.2 != t213) t245 t226) else (laws_FnExactRenameGraph.j2 kj73 t244 true t245 t226)))) = some r := H
                          have A119 := Aside0.mk A1190
                          clear A1190
                          replace H := Option.bind_eq_some_iff.mp H
                          obtain ⟨⟨t254, t257, t258⟩, A1200, H⟩ := H
                          replace H : ((laws_eqGraph.f kj73 t254 t257 t209 t212).bind fun t260 => (if t260 = true then (laws_FnExactRenameGraph.j2 kj73 t244 (t258 != t213) t245 t226) else (laws_FnExactRenameGraph.j2 kj73 t244 true t245 t226))) = some r := H
                          have A120 := Aside0.mk A1200
                          clear A1200
                          have HC121 := Aside0.mk H
                          clear H
                          have hnb122 := NB228_200.out
                          have hnc122 := NB200_228.out
                          have hnb123 := NB228_214.out
                          have hnc123 := NB214_228.out
                          have hnb124 := NB228_219.out
                          have hnc124 := NB219_228.out
                          have hcz125_0 : wc.cell? ⟨gb228, 0, none⟩ = some (.slice Ao42 t223.length co42) := (blk_cell BK228.out 0).trans rfl
                          have hcz125_1 : wc.cell? ⟨gb228, 1, none⟩ = some (.bool t226) := (blk_cell BK228.out 1).trans rfl
                          have hfz125_0 := blk_frozen BK228.out 0
                          have hfz125_1 := blk_frozen BK228.out 1
                          go_upto_region 31 with (first | ((with_reducible refine gate_callee (f := 12) rfl ?_); refine goesL_ (some 83) rfl rfl Try.func12 (by kernel_rfl) rfl #[.agg #[.slice Ao42 t223.length co42, .bool t226], .int .i64 1] rfl (by (try simp only [List.map_toArray, List.map_cons, List.map_nil]); first | done | rfl | (simp only [List.length_drop, List.length_take]; rfl)) ?_; (with_reducible refine (laws_markGraph.calls kj73 (fun k_ => some k_ = (.slice Ao42 t223.length co42 : Value).ownBlock) (.slice Ao42 t223.length co42) t223 t226 1 t244 t245 w _ ?side1 ?side2 A107.out).mono ?_); (case side1 => repeat (first | (with_reducible first | exact HB.out | apply below_alloc | apply pw_below_drewN | apply below_drew1 | refine below_set ?_ GE200.out | refine below_set ?_ GE214.out | refine below_set ?_ GE219.out | refine below_set ?_ GE228.out) | exact HB.out)); (case side2 => exact Kd.R_tight rfl HO_229000.out); rintro e w126 ⟨rfl, hy0, hb, hkp⟩; refine ⟨_, rfl, ?_⟩; have n0_ := Aside0.mk (Kd.R_mono (ok' := fun k_ => some k_ ≠ (.slice Ao33 t240.length co33 : Value).ownBlock ∧ some k_ ≠ (.slice Ao42 t223.length co42 : Value).ownBlock) (Kd.R_keptB (HO_215000.out) hkp (fun k_ hk_ hs_ => (hk_.2) hs_)) (fun k_ hk_ => ⟨hk_.1.1, hk_.1.2⟩)); have n1_ := Aside0.mk (Kd.R_mono (ok' := fun k_ => some k_ ≠ (.slice Ao27 t209.length co27 : Value).ownBlock ∧ some k_ ≠ (.slice Ao42 t223.length co42 : Value).ownBlock) (Kd.R_keptB (HO_220000.out) hkp (fun k_ hk_ hs_ => (hk_.2) hs_)) (fun k_ hk_ => ⟨hk_.1.1, hk_.1.2⟩)); have n2_ := Aside0.mk (Kd.R_reok rfl hy0 (fun k_ e_ => HO_229000.out.1 k_ e_)); have n3_ := Aside0.mk (blk_kept (g := gb200) (by first | exact BK200.out | ((with_reducible repeat (first | refine blk_drewN ?_ _ | refine blk_drew ?_ | refine blk_alloc ?_ _)); exact BK200.out)) hkp (Kd.R_ne HO_229000.out BK200.out (by decide))); have n4_ := Aside0.mk (blk_kept (g := gb214) (by first | exact BK214.out | ((with_reducible repeat (first | refine blk_drewN ?_ _ | refine blk_drew ?_ | refine blk_alloc ?_ _)); exact BK214.out)) hkp (Kd.R_ne HO_229000.out BK214.out (by decide))); have n5_ := Aside0.mk (blk_kept (g := gb219) (by first | exact BK219.out | ((with_reducible repeat (first | refine blk_drewN ?_ _ | refine blk_drew ?_ | refine blk_alloc ?_ _)); exact BK219.out)) hkp (Kd.R_ne HO_229000.out BK219.out (by decide))); have n6_ := Aside0.mk (blk_kept (g := gb228) (by first | exact BK228.out | ((with_reducible repeat (first | refine blk_drewN ?_ _ | refine blk_drew ?_ | refine blk_alloc ?_ _)); exact BK228.out)) hkp (Kd.R_ne HO_229000.out BK228.out (by decide))); have n7_ := Aside0.mk (hb); clear HO_215000; clear HO_220000; clear HO_229000; clear BK200; clear BK214; clear BK219; clear BK228; clear HB; have HO_215000 := n0_; have HO_220000 := n1_; have HO_229000 := n2_; have BK200 := n3_; have BK214 := n4_; have BK219 := n5_; have BK228 := n6_; have HB := n7_; clear n0_ n1_ n2_ n3_ n4_ n5_ n6_ n7_; (try clear hb); (try clear hkp); (try clear hy0); have hcz127_0 : w126.cell? ⟨gb228, 0, none⟩ = some (.slice Ao42 t223.length co42) := (blk_cell BK228.out 0).trans rfl; have hcz127_1 : w126.cell? ⟨gb228, 1, none⟩ = some (.bool t226) := (blk_cell BK228.out 1).trans rfl; have hfz127_0 := blk_frozen BK228.out 0; have hfz127_1 := blk_frozen BK228.out 1) | ((with_reducible refine gate_callee (f := 13) rfl ?_); refine goesL_ (some 86) rfl rfl Try.func13 (by kernel_rfl) rfl #[.agg #[.slice Ao42 t245.length co42, .bool t226], .int .i64 1] rfl (by (try simp only [List.map_toArray, List.map_cons, List.map_nil]); first | done | (rw [show t245.length = t223.length from (Kd.R_reads' HO_229000.out).1.symm] <;> rfl) | rfl | (simp only [List.length_drop, List.length_take]; rfl)) ?_; (with_reducible refine (laws_heldGraph.calls kj73 _ _ t245 t226 1 t246 _ ?side1 ?side2 A108.out).mono ?_); (case side1 => repeat (first | exact (Kd.R_reads' HO_229000.out).2.2 | (with_reducible refine Kd.C_alloc ?_ _) | (with_reducible refine Kd.C_drewN ?_ _) | (with_reducible refine Kd.C_drew ?_))); (case side2 => rw [show t245.length = t223.length from (Kd.R_reads' HO_229000.out).1.symm]; exact (Kd.R_reads' HO_229000.out).2.1); rintro e w128 ⟨rfl, hb⟩; refine ⟨_, rfl, ?_⟩; have n0_ := Aside0.mk (Kd.R_below (by (with_reducible repeat (first | apply Kd.R_alloc | apply Kd.R_drewN | apply Kd.R_drew)); exact HO_215000.out) hb); have n1_ := Aside0.mk (Kd.R_below (by (with_reducible repeat (first | apply Kd.R_alloc | apply Kd.R_drewN | apply Kd.R_drew)); exact HO_220000.out) hb); have n2_ := Aside0.mk (Kd.R_below (by (with_reducible repeat (first | apply Kd.R_alloc | apply Kd.R_drewN | apply Kd.R_drew)); exact HO_229000.out) hb); have n3_ := Aside0.mk (blk_below (g := gb200) (o := .cells #[.slice A0_0 l0_0.length c0_0, .bool a0_1] 24 (0, 0)) (by (with_reducible repeat (first | refine blk_drewN ?_ _ | refine blk_drew ?_ | refine blk_alloc ?_ _)); exact BK200.out) hb); have n4_ := Aside0.mk (blk_below (g := gb214) (o := .cells #[.slice Ao27 t209.length co27, .bool t212] 26 (0, 0)) (by (with_reducible repeat (first | refine blk_drewN ?_ _ | refine blk_drew ?_ | refine blk_alloc ?_ _)); exact BK214.out) hb); have n5_ := Aside0.mk (blk_below (g := gb219) (o := .cells #[.slice Ao33 t240.length co33, .bool t218] 26 (0, 0)) (by (with_reducible repeat (first | refine blk_drewN ?_ _ | refine blk_drew ?_ | refine blk_alloc ?_ _)); exact BK219.out) hb); have n6_ := Aside0.mk (blk_below (g := gb228) (o := .cells #[.slice Ao42 t223.length co42, .bool t226] 26 (0, 0)) (by (with_reducible repeat (first | refine blk_drewN ?_ _ | refine blk_drew ?_ | refine blk_alloc ?_ _)); exact BK228.out) hb); have n7_ := Aside0.mk (below_step (by repeat (first | (with_reducible first | exact HB.out | apply below_alloc | apply pw_below_drewN | apply below_drew1 | refine below_set ?_ GE200.out | refine below_set ?_ GE214.out | refine below_set ?_ GE219.out | refine below_set ?_ GE228.out) | exact HB.out)) hb); clear HO_215000; clear HO_220000; clear HO_229000; clear BK200; clear BK214; clear BK219; clear BK228; clear HB; have HO_215000 := n0_; have HO_220000 := n1_; have HO_229000 := n2_; have BK200 := n3_; have BK214 := n4_; have BK219 := n5_; have BK228 := n6_; have HB := n7_; clear n0_ n1_ n2_ n3_ n4_ n5_ n6_ n7_; (try clear hb); (try clear hb2); (try clear hk); (try clear hi); have hnb129 := NB200_214.out; have hnc129 := NB214_200.out; have hnb130 := NB200_219.out; have hnc130 := NB219_200.out; have hcz131_0 : w128.cell? ⟨gb200, 0, none⟩ = some (.slice A0_0 l0_0.length c0_0) := (blk_cell BK200.out 0).trans rfl; have hcz131_1 : w128.cell? ⟨gb200, 1, none⟩ = some (.bool a0_1) := (blk_cell BK200.out 1).trans rfl; have hfz131_0 := blk_frozen BK200.out 0; have hfz131_1 := blk_frozen BK200.out 1) | ((with_reducible refine gate_callee (f := 9) rfl ?_); refine goesL_ (some 94) rfl rfl Try.func9 (by kernel_rfl) rfl #[.agg #[.slice A0_0 l0_0.length c0_0, .bool a0_1]] rfl (by (try simp only [List.map_toArray, List.map_cons, List.map_nil]); first | done | rfl | (simp only [List.length_drop, List.length_take]; rfl)) ?_; (with_reducible refine (laws_toGraph.calls kj73 _ _ l0_0 a0_1 t247 t250 _ ?side1 ?side2 A118.out).mono ?_); (case side1 => repeat (first | exact (Kd.C_below HR0_0.out HB.out) | (with_reducible refine Kd.C_alloc ?_ _) | (with_reducible refine Kd.C_drewN ?_ _) | (with_reducible refine Kd.C_drew ?_))); (case side2 => exact HC0_0.out); rintro e w132 ⟨v248, rfl, ho0, hb⟩; refine ⟨_, rfl, ?_⟩; have n0_ := Aside0.mk (Kd.R_elder' (by (with_reducible repeat (first | apply Kd.R_alloc | apply Kd.R_drewN | apply Kd.R_drew)); exact HO_215000.out) (Kd.R_base ho0) hb); have n1_ := Aside0.mk (Kd.R_elder' (by (with_reducible repeat (first | apply Kd.R_alloc | apply Kd.R_drewN | apply Kd.R_drew)); exact HO_220000.out) (Kd.R_base ho0) hb); have n2_ := Aside0.mk (Kd.R_elder' (by (with_reducible repeat (first | apply Kd.R_alloc | apply Kd.R_drewN | apply Kd.R_drew)); exact HO_229000.out) (Kd.R_base ho0) hb); have n3_ := Aside0.mk (Kd.R_lower (Kd.R_new' (Kd.R_new' (Kd.R_new' ho0 (Kd.R_lt (by (with_reducible repeat (first | apply Kd.R_alloc | apply Kd.R_drewN | apply Kd.R_drew)); exact HO_215000.out))) (Kd.R_lt (by (with_reducible repeat (first | apply Kd.R_alloc | apply Kd.R_drewN | apply Kd.R_drew)); exact HO_220000.out))) (Kd.R_lt (by (with_reducible repeat (first | apply Kd.R_alloc | apply Kd.R_drewN | apply Kd.R_drew)); exact HO_229000.out))) (below_size (by repeat (first | (with_reducible first | exact HB.out | apply below_alloc | apply pw_below_drewN | apply below_drew1 | refine below_set ?_ GE200.out | refine below_set ?_ GE214.out | refine below_set ?_ GE219.out | refine below_set ?_ GE228.out) | exact HB.out)))); have n4_ := Aside0.mk (blk_below (g := gb200) (o := .cells #[.slice A0_0 l0_0.length c0_0, .bool a0_1] 24 (0, 0)) (by (with_reducible repeat (first | refine blk_drewN ?_ _ | refine blk_drew ?_ | refine blk_alloc ?_ _)); exact BK200.out) hb); have n5_ := Aside0.mk (blk_below (g := gb214) (o := .cells #[.slice Ao27 t209.length co27, .bool t212] 26 (0, 0)) (by (with_reducible repeat (first | refine blk_drewN ?_ _ | refine blk_drew ?_ | refine blk_alloc ?_ _)); exact BK214.out) hb); have n6_ := Aside0.mk (blk_below (g := gb219) (o := .cells #[.slice Ao33 t240.length co33, .bool t218] 26 (0, 0)) (by (with_reducible repeat (first | refine blk_drewN ?_ _ | refine blk_drew ?_ | refine blk_alloc ?_ _)); exact BK219.out) hb); have n7_ := Aside0.mk (blk_below (g := gb228) (o := .cells #[.slice Ao42 t223.length co42, .bool t226] 26 (0, 0)) (by (with_reducible repeat (first | refine blk_drewN ?_ _ | refine blk_drew ?_ | refine blk_alloc ?_ _)); exact BK228.out) hb); have n8_ := Aside0.mk (below_step (by repeat (first | (with_reducible first | exact HB.out | apply below_alloc | apply pw_below_drewN | apply below_drew1 | refine below_set ?_ GE200.out | refine below_set ?_ GE214.out | refine below_set ?_ GE219.out | refine below_set ?_ GE228.out) | exact HB.out)) hb); clear HO_215000; clear HO_220000; clear HO_229000; clear BK200; clear BK214; clear BK219; clear BK228; clear HB; have HO_215000 := n0_; have HO_220000 := n1_; have HO_229000 := n2_; have HO249 := n3_; have BK200 := n4_; have BK214 := n5_; have BK219 := n6_; have BK228 := n7_; have HB := n8_; clear n0_ n1_ n2_ n3_ n4_ n5_ n6_ n7_ n8_; (try clear hb); (try clear hb2); (try clear hk); (try clear hi); (try clear ho0)) | ((with_reducible refine gate_callee (f := 24) rfl ?_); refine goesL_ (some 96) rfl rfl Try.func24 (by kernel_rfl) rfl #[.slice A1 l1.length c1] rfl (by (try simp only [List.map_toArray, List.map_cons, List.map_nil]); first | done | rfl | (simp only [List.length_drop, List.length_take]; rfl)) ?_; (with_reducible refine (laws_toIntS.calls kj73 _ _ l1 t251 _ ?side1 ?side2 A119.out).mono ?_); (case side1 => repeat (first | exact (Kd.C_below HR1.out HB.out) | (with_reducible refine Kd.C_alloc ?_ _) | (with_reducible refine Kd.C_drewN ?_ _) | (with_reducible refine Kd.C_drew ?_))); (case side2 => exact HC1.out); rintro e w133 ⟨v252, rfl, ho0, hb⟩; refine ⟨_, rfl, ?_⟩; have n0_ := Aside0.mk (Kd.R_elder' (by (with_reducible repeat (first | apply Kd.R_alloc | apply Kd.R_drewN | apply Kd.R_drew)); exact HO_215000.out) (Kd.R_base ho0) hb); have n1_ := Aside0.mk (Kd.R_elder' (by (with_reducible repeat (first | apply Kd.R_alloc | apply Kd.R_drewN | apply Kd.R_drew)); exact HO_220000.out) (Kd.R_base ho0) hb); have n2_ := Aside0.mk (Kd.R_elder' (by (with_reducible repeat (first | apply Kd.R_alloc | apply Kd.R_drewN | apply Kd.R_drew)); exact HO_229000.out) (Kd.R_base ho0) hb); have n3_ := Aside0.mk (Kd.R_elder' (by (with_reducible repeat (first | apply Kd.R_alloc | apply Kd.R_drewN | apply Kd.R_drew)); exact HO249.out) (Kd.R_base ho0) hb); have n4_ := Aside0.mk (Kd.R_lower (Kd.R_new' (Kd.R_new' (Kd.R_new' (Kd.R_new' ho0 (Kd.R_lt (by (with_reducible repeat (first | apply Kd.R_alloc | apply Kd.R_drewN | apply Kd.R_drew)); exact HO_215000.out))) (Kd.R_lt (by (with_reducible repeat (first | apply Kd.R_alloc | apply Kd.R_drewN | apply Kd.R_drew)); exact HO_220000.out))) (Kd.R_lt (by (with_reducible repeat (first | apply Kd.R_alloc | apply Kd.R_drewN | apply Kd.R_drew)); exact HO_229000.out))) (Kd.R_lt (by (with_reducible repeat (first | apply Kd.R_alloc | apply Kd.R_drewN | apply Kd.R_drew)); exact HO249.out))) (below_size (by repeat (first | (with_reducible first | exact HB.out | apply below_alloc | apply pw_below_drewN | apply below_drew1 | refine below_set ?_ GE200.out | refine below_set ?_ GE214.out | refine below_set ?_ GE219.out | refine below_set ?_ GE228.out) | exact HB.out)))); have n5_ := Aside0.mk (blk_below (g := gb200) (o := .cells #[.slice A0_0 l0_0.length c0_0, .bool a0_1] 24 (0, 0)) (by (with_reducible repeat (first | refine blk_drewN ?_ _ | refine blk_drew ?_ | refine blk_alloc ?_ _)); exact BK200.out) hb); have n6_ := Aside0.mk (blk_below (g := gb214) (o := .cells #[.slice Ao27 t209.length co27, .bool t212] 26 (0, 0)) (by (with_reducible repeat (first | refine blk_drewN ?_ _ | refine blk_drew ?_ | refine blk_alloc ?_ _)); exact BK214.out) hb); have n7_ := Aside0.mk (blk_below (g := gb219) (o := .cells #[.slice Ao33 t240.length co33, .bool t218] 26 (0, 0)) (by (with_reducible repeat (first | refine blk_drewN ?_ _ | refine blk_drew ?_ | refine blk_alloc ?_ _)); exact BK219.out) hb); have n8_ := Aside0.mk (blk_below (g := gb228) (o := .cells #[.slice Ao42 t223.length co42, .bool t226] 26 (0, 0)) (by (with_reducible repeat (first | refine blk_drewN ?_ _ | refine blk_drew ?_ | refine blk_alloc ?_ _)); exact BK228.out) hb); have n9_ := Aside0.mk (below_step (by repeat (first | (with_reducible first | exact HB.out | apply below_alloc | apply pw_below_drewN | apply below_drew1 | refine below_set ?_ GE200.out | refine below_set ?_ GE214.out | refine below_set ?_ GE219.out | refine below_set ?_ GE228.out) | exact HB.out)) hb); clear HO_215000; clear HO_220000; clear HO_229000; clear HO249; clear BK200; clear BK214; clear BK219; clear BK228; clear HB; have HO_215000 := n0_; have HO_220000 := n1_; have HO_229000 := n2_; have HO249 := n3_; have HO253 := n4_; have BK200 := n5_; have BK214 := n6_; have BK219 := n7_; have BK228 := n8_; have HB := n9_; clear n0_ n1_ n2_ n3_ n4_ n5_ n6_ n7_ n8_ n9_; (try clear hb); (try clear hb2); (try clear hk); (try clear hi); (try clear ho0); obtain ⟨Ao134, co134, eo134⟩ := Kd.R_slice HO249.out; subst eo134; obtain ⟨Ao135, co135, eo135⟩ := Kd.R_slice HO253.out; subst eo135) | ((with_reducible refine gate_callee (f := 25) rfl ?_); refine goesL_ (some 97) rfl rfl Try.func25 (by kernel_rfl) rfl #[.agg #[.slice Ao134 t247.length co134, .bool t250], .slice Ao135 t251.length co135] rfl (by (try simp only [List.map_toArray, List.map_cons, List.map_nil]); first | done | rfl | (simp only [List.length_drop, List.length_take]; rfl)) ?_; (with_reducible refine (impl_RenameGraph.calls kj73 _ _ t247 t250 _ _ t251 t254 t257 t258 _ ?side1 ?side2 ?side3 ?side4 A120.out).mono ?_); (case side1 => repeat (first | exact (Kd.R_reads' HO249.out).2.2 | (with_reducible refine Kd.C_alloc ?_ _) | (with_reducible refine Kd.C_drewN ?_ _) | (with_reducible refine Kd.C_drew ?_))); (case side2 => exact (Kd.R_reads' HO249.out).2.1); (case side3 => repeat (first | exact (Kd.R_reads' HO253.out).2.2 | (with_reducible refine Kd.C_alloc ?_ _) | (with_reducible refine Kd.C_drewN ?_ _) | (with_reducible refine Kd.C_drew ?_))); (case side4 => exact (Kd.R_reads' HO253.out).2.1); rintro e w136 ⟨v255, rfl, ho0, hb⟩; refine ⟨_, rfl, ?_⟩; have n0_ := Aside0.mk (Kd.R_elder' (by (with_reducible repeat (first | apply Kd.R_alloc | apply Kd.R_drewN | apply Kd.R_drew)); exact HO_215000.out) (Kd.R_base ho0) hb); have n1_ := Aside0.mk (Kd.R_elder' (by (with_reducible repeat (first | apply Kd.R_alloc | apply Kd.R_drewN | apply Kd.R_drew)); exact HO_220000.out) (Kd.R_base ho0) hb); have n2_ := Aside0.mk (Kd.R_elder' (by (with_reducible repeat (first | apply Kd.R_alloc | apply Kd.R_drewN | apply Kd.R_drew)); exact HO_229000.out) (Kd.R_base ho0) hb); have n3_ := Aside0.mk (Kd.R_elder' (by (with_reducible repeat (first | apply Kd.R_alloc | apply Kd.R_drewN | apply Kd.R_drew)); exact HO249.out) (Kd.R_base ho0) hb); have n4_ := Aside0.mk (Kd.R_elder' (by (with_reducible repeat (first | apply Kd.R_alloc | apply Kd.R_drewN | apply Kd.R_drew)); exact HO253.out) (Kd.R_base ho0) hb); have n5_ := Aside0.mk (Kd.R_lower (Kd.R_new' (Kd.R_new' (Kd.R_new' (Kd.R_new' (Kd.R_new' ho0 (Kd.R_lt (by (with_reducible repeat (first | apply Kd.R_alloc | apply Kd.R_drewN | apply Kd.R_drew)); exact HO_215000.out))) (Kd.R_lt (by (with_reducible repeat (first | apply Kd.R_alloc | apply Kd.R_drewN | apply Kd.R_drew)); exact HO_220000.out))) (Kd.R_lt (by (with_reducible repeat (first | apply Kd.R_alloc | apply Kd.R_drewN | apply Kd.R_drew)); exact HO_229000.out))) (Kd.R_lt (by (with_reducible repeat (first | apply Kd.R_alloc | apply Kd.R_drewN | apply Kd.R_drew)); exact HO249.out))) (Kd.R_lt (by (with_reducible repeat (first | apply Kd.R_alloc | apply Kd.R_drewN | apply Kd.R_drew)); exact HO253.out))) (below_size (by repeat (first | (with_reducible first | exact HB.out | apply below_alloc | apply pw_below_drewN | apply below_drew1 | refine below_set ?_ GE200.out | refine below_set ?_ GE214.out | refine below_set ?_ GE219.out | refine below_set ?_ GE228.out) | exact HB.out)))); have n6_ := Aside0.mk (blk_below (g := gb200) (o := .cells #[.slice A0_0 l0_0.length c0_0, .bool a0_1] 24 (0, 0)) (by (with_reducible repeat (first | refine blk_drewN ?_ _ | refine blk_drew ?_ | refine blk_alloc ?_ _)); exact BK200.out) hb); have n7_ := Aside0.mk (blk_below (g := gb214) (o := .cells #[.slice Ao27 t209.length co27, .bool t212] 26 (0, 0)) (by (with_reducible repeat (first | refine blk_drewN ?_ _ | refine blk_drew ?_ | refine blk_alloc ?_ _)); exact BK214.out) hb); have n8_ := Aside0.mk (blk_below (g := gb219) (o := .cells #[.slice Ao33 t240.length co33, .bool t218] 26 (0, 0)) (by (with_reducible repeat (first | refine blk_drewN ?_ _ | refine blk_drew ?_ | refine blk_alloc ?_ _)); exact BK219.out) hb); have n9_ := Aside0.mk (blk_below (g := gb228) (o := .cells #[.slice Ao42 t223.length co42, .bool t226] 26 (0, 0)) (by (with_reducible repeat (first | refine blk_drewN ?_ _ | refine blk_drew ?_ | refine blk_alloc ?_ _)); exact BK228.out) hb); have n10_ := Aside0.mk (below_step (by repeat (first | (with_reducible first | exact HB.out | apply below_alloc | apply pw_below_drewN | apply below_drew1 | refine below_set ?_ GE200.out | refine below_set ?_ GE214.out | refine below_set ?_ GE219.out | refine below_set ?_ GE228.out) | exact HB.out)) hb); clear HO_215000; clear HO_220000; clear HO_229000; clear HO249; clear HO253; clear BK200; clear BK214; clear BK219; clear BK228; clear HB; have HO_215000 := n0_; have HO_220000 := n1_; have HO_229000 := n2_; have HO249 := n3_; have HO253 := n4_; have HO256 := n5_; have BK200 := n6_; have BK214 := n7_; have BK219 := n8_; have BK228 := n9_; have HB := n10_; clear n0_ n1_ n2_ n3_ n4_ n5_ n6_ n7_ n8_ n9_ n10_; (try clear hb); (try clear hb2); (try clear hk); (try clear hi); (try clear ho0)) | ((with_reducible refine gate_dst (N := 15) rfl ?_); refine box_event ?hg (N := 15) ?hd (cs := #[.slice none 0 0, .bool false]) (t := 26) ?hr ?_; (case hd => rfl); (case hg => rfl); (case hr => first | (go_simp; done) | (go_simp; rfl)); intro gb259 hg w137 hbox hb; have n0_ := Aside0.mk (Kd.R_below (by (with_reducible repeat (first | apply Kd.R_alloc | apply Kd.R_drewN | apply Kd.R_drew)); exact HO_215000.out) hb); have n1_ := Aside0.mk (Kd.R_below (by (with_reducible repeat (first | apply Kd.R_alloc | apply Kd.R_drewN | apply Kd.R_drew)); exact HO_220000.out) hb); have n2_ := Aside0.mk (Kd.R_below (by (with_reducible repeat (first | apply Kd.R_alloc | apply Kd.R_drewN | apply Kd.R_drew)); exact HO_229000.out) hb); have n3_ := Aside0.mk (Kd.R_below (by (with_reducible repeat (first | apply Kd.R_alloc | apply Kd.R_drewN | apply Kd.R_drew)); exact HO249.out) hb); have n4_ := Aside0.mk (Kd.R_below (by (with_reducible repeat (first | apply Kd.R_alloc | apply Kd.R_drewN | apply Kd.R_drew)); exact HO253.out) hb); have n5_ := Aside0.mk (Kd.R_below (by (with_reducible repeat (first | apply Kd.R_alloc | apply Kd.R_drewN | apply Kd.R_drew)); exact HO256.out) hb); have n6_ := Aside0.mk (blk_below (g := gb200) (o := .cells #[.slice A0_0 l0_0.length c0_0, .bool a0_1] 24 (0, 0)) (by (with_reducible repeat (first | refine blk_drewN ?_ _ | refine blk_drew ?_ | refine blk_alloc ?_ _)); exact BK200.out) hb); have n7_ := Aside0.mk (blk_below (g := gb214) (o := .cells #[.slice Ao27 t209.length co27, .bool t212] 26 (0, 0)) (by (with_reducible repeat (first | refine blk_drewN ?_ _ | refine blk_drew ?_ | refine blk_alloc ?_ _)); exact BK214.out) hb); have n8_ := Aside0.mk (blk_below (g := gb219) (o := .cells #[.slice Ao33 t240.length co33, .bool t218] 26 (0, 0)) (by (with_reducible repeat (first | refine blk_drewN ?_ _ | refine blk_drew ?_ | refine blk_alloc ?_ _)); exact BK219.out) hb); have n9_ := Aside0.mk (blk_below (g := gb228) (o := .cells #[.slice Ao42 t223.length co42, .bool t226] 26 (0, 0)) (by (with_reducible repeat (first | refine blk_drewN ?_ _ | refine blk_drew ?_ | refine blk_alloc ?_ _)); exact BK228.out) hb); have n10_ := Aside0.mk (below_step (by repeat (first | (with_reducible first | exact HB.out | apply below_alloc | apply pw_below_drewN | apply below_drew1 | refine below_set ?_ GE200.out | refine below_set ?_ GE214.out | refine below_set ?_ GE219.out | refine below_set ?_ GE228.out) | exact HB.out)) hb); have n11_ := Aside0.mk (hbox); have n12_ := Aside0.mk ((by rw [hg]; exact (below_size (by repeat (first | (with_reducible first | exact HB.out | apply below_alloc | apply pw_below_drewN | apply below_drew1 | refine below_set ?_ GE200.out | refine below_set ?_ GE214.out | refine below_set ?_ GE219.out | refine below_set ?_ GE228.out) | exact HB.out))) : w.heap.size ≤ gb259)); have n13_ := Aside0.mk ((by rw [hg]; exact (below_size (by repeat (first | (with_reducible first | exact HB.out | apply below_alloc | apply pw_below_drewN | apply below_drew1 | refine below_set ?_ GE200.out | refine below_set ?_ GE214.out | refine below_set ?_ GE219.out | refine below_set ?_ GE228.out) | exact HB.out))) : w.heap.size ≤ gb259)); have n14_ := Aside0.mk ((by rw [hg]; exact Nat.ne_of_lt (blk_lt (g := gb200) (o := .cells #[.slice A0_0 l0_0.length c0_0, .bool a0_1] 24 (0, 0)) (by (with_reducible repeat (first | refine blk_drewN ?_ _ | refine blk_drew ?_ | refine blk_alloc ?_ _)); exact BK200.out)) : gb200 ≠ gb259)); have n15_ := Aside0.mk ((by rw [hg]; exact Nat.ne_of_gt (blk_lt (g := gb200) (o := .cells #[.slice A0_0 l0_0.length c0_0, .bool a0_1] 24 (0, 0)) (by (with_reducible repeat (first | refine blk_drewN ?_ _ | refine blk_drew ?_ | refine blk_alloc ?_ _)); exact BK200.out)) : gb259 ≠ gb200)); have n16_ := Aside0.mk ((by rw [hg]; exact Nat.ne_of_lt (blk_lt (g := gb214) (o := .cells #[.slice Ao27 t209.length co27, .bool t212] 26 (0, 0)) (by (with_reducible repeat (first | refine blk_drewN ?_ _ | refine blk_drew ?_ | refine blk_alloc ?_ _)); exact BK214.out)) : gb214 ≠ gb259)); have n17_ := Aside0.mk ((by rw [hg]; exact Nat.ne_of_gt (blk_lt (g := gb214) (o := .cells #[.slice Ao27 t209.length co27, .bool t212] 26 (0, 0)) (by (with_reducible repeat (first | refine blk_drewN ?_ _ | refine blk_drew ?_ | refine blk_alloc ?_ _)); exact BK214.out)) : gb259 ≠ gb214)); have n18_ := Aside0.mk ((by rw [hg]; exact Nat.ne_of_lt (blk_lt (g := gb219) (o := .cells #[.slice Ao33 t240.length co33, .bool t218] 26 (0, 0)) (by (with_reducible repeat (first | refine blk_drewN ?_ _ | refine blk_drew ?_ | refine blk_alloc ?_ _)); exact BK219.out)) : gb219 ≠ gb259)); have n19_ := Aside0.mk ((by rw [hg]; exact Nat.ne_of_gt (blk_lt (g := gb219) (o := .cells #[.slice Ao33 t240.length co33, .bool t218] 26 (0, 0)) (by (with_reducible repeat (first | refine blk_drewN ?_ _ | refine blk_drew ?_ | refine blk_alloc ?_ _)); exact BK219.out)) : gb259 ≠ gb219)); have n20_ := Aside0.mk ((by rw [hg]; exact Nat.ne_of_lt (blk_lt (g := gb228) (o := .cells #[.slice Ao42 t223.length co42, .bool t226] 26 (0, 0)) (by (with_reducible repeat (first | refine blk_drewN ?_ _ | refine blk_drew ?_ | refine blk_alloc ?_ _)); exact BK228.out)) : gb228 ≠ gb259)); have n21_ := Aside0.mk ((by rw [hg]; exact Nat.ne_of_gt (blk_lt (g := gb228) (o := .cells #[.slice Ao42 t223.length co42, .bool t226] 26 (0, 0)) (by (with_reducible repeat (first | refine blk_drewN ?_ _ | refine blk_drew ?_ | refine blk_alloc ?_ _)); exact BK228.out)) : gb259 ≠ gb228)); clear HO_215000; clear HO_220000; clear HO_229000; clear HO249; clear HO253; clear HO256; clear BK200; clear BK214; clear BK219; clear BK228; clear HB; have HO_215000 := n0_; have HO_220000 := n1_; have HO_229000 := n2_; have HO249 := n3_; have HO253 := n4_; have HO256 := n5_; have BK200 := n6_; have BK214 := n7_; have BK219 := n8_; have BK228 := n9_; have HB := n10_; have BK259 := n11_; have GW259 := n12_; have GE259 := n13_; have NB200_259 := n14_; have NB259_200 := n15_; have NB214_259 := n16_; have NB259_214 := n17_; have NB219_259 := n18_; have NB259_219 := n19_; have NB228_259 := n20_; have NB259_228 := n21_; clear n0_ n1_ n2_ n3_ n4_ n5_ n6_ n7_ n8_ n9_ n10_ n11_ n12_ n13_ n14_ n15_ n16_ n17_ n18_ n19_ n20_ n21_; clear hb hbox hg; obtain ⟨Ao138, co138, eo138⟩ := Kd.R_slice HO256.out; subst eo138; have hnb139 := NB259_200.out; have hnc139 := NB200_259.out; have hnb140 := NB259_214.out; have hnc140 := NB214_259.out; have hnb141 := NB259_219.out; have hnc141 := NB219_259.out; have hnb142 := NB259_228.out; have hnc142 := NB228_259.out; have hcz143_0 : w137.cell? ⟨gb259, 0, none⟩ = some (.slice none 0 0) := (blk_cell BK259.out 0).trans rfl; have hcz143_1 : w137.cell? ⟨gb259, 1, none⟩ = some (.bool false) := (blk_cell BK259.out 1).trans rfl; have hfz143_0 := blk_frozen BK259.out 0; have hfz143_1 := blk_frozen BK259.out 1))
                          (try simp only [Act.put, List.setIfInBounds_toArray, List.set_cons_zero, List.set_cons_succ])
                          go_cut [108] (fun v108 wc => ∃ (kq : Nat) (x108_120 : Bool), v108 = .bool x108_120 ∧ Aside0 (laws_FnExactRenameGraph.j2 kq t244 x108_120 t245 t226 = some r) ∧ Aside0 (kq ≤ kj73) ∧ Aside0 (Kd.R (Kd.int .i64) 3 wc w.heap.size (fun k_ => some k_ ≠ ((.slice Ao33 t240.length co33) : Value).ownBlock ∧ some k_ ≠ ((.slice Ao42 t223.length co42) : Value).ownBlock ∧ some k_ ≠ ((.slice Ao138 t254.length co138) : Value).ownBlock) (.slice Ao27 t209.length co27) t209) ∧ Aside0 (Kd.R (Kd.int .i64) 3 wc w.heap.size (fun k_ => some k_ ≠ ((.slice Ao27 t209.length co27) : Value).ownBlock ∧ some k_ ≠ ((.slice Ao42 t223.length co42) : Value).ownBlock ∧ some k_ ≠ ((.slice Ao138 t254.length co138) : Value).ownBlock) (.slice Ao33 t240.length co33) t240) ∧ Aside0 (Kd.R (Kd.int .i64) 3 wc w.heap.size (fun k_ => some k_ ≠ ((.slice Ao27 t209.length co27) : Value).ownBlock ∧ some k_ ≠ ((.slice Ao33 t240.length co33) : Value).ownBlock ∧ some k_ ≠ ((.slice Ao138 t254.length co138) : Value).ownBlock) (.slice Ao42 t223.length co42) t245) ∧ Aside0 (Kd.R (Kd.int .i64) 3 wc w.heap.size (fun k_ => some k_ ≠ ((.slice Ao27 t209.length co27) : Value).ownBlock ∧ some k_ ≠ ((.slice Ao33 t240.length co33) : Value).ownBlock ∧ some k_ ≠ ((.slice Ao42 t223.length co42) : Value).ownBlock) (.slice Ao138 t254.length co138) t254) ∧ Aside0 (wc.heap[gb200]? = some (.cells #[(.slice A0_0 l0_0.length c0_0), .bool a0_1] 24 (0, 0))) ∧ Aside0 (wc.heap[gb214]? = some (.cells #[(.slice Ao27 t209.length co27), .bool t212] 26 (0, 0))) ∧ Aside0 (wc.heap[gb219]? = some (.cells #[(.slice Ao33 t240.length co33), .bool t218] 26 (0, 0))) ∧ Aside0 (wc.heap[gb228]? = some (.cells #[(.slice Ao42 t223.length co42), .bool t226] 26 (0, 0))) ∧ Aside0 (wc.heap[gb259]? = some (.cells #[(.slice Ao138 t254.length co138), .bool t257] 26 (0, 0))) ∧ Aside0 (Below w.heap.size w wc))
                          case first => as_aux_lemma =>
                            have H := HC121.out
                            clear HC121
                            replace H := Option.bind_eq_some_iff.mp H
                            obtain ⟨t260, A1440, H⟩ := H
                            replace H : (if t260 = true then (laws_FnExactRenameGraph.j2 kj73 t244 (t258 != t213) t245 t226) else (laws_FnExactRenameGraph.j2 kj73 t244 true t245 t226)) = some r := H
                            have A144 := Aside0.mk A1440
                            clear A1440
                            by_cases c145 : t260 = true
                            · subst c145
                              have H1 : (laws_FnExactRenameGraph.j2 kj73 t244 (t258 != t213) t245 t226) = some r := by rw [if_pos rfl] at H; exact H
                              clear H
                              have H := H1
                              clear H1
                              have H' := Aside0.mk H
                              clear H
                              have hnb146 := NB259_200.out
                              have hnc146 := NB200_259.out
                              have hnb147 := NB259_214.out
                              have hnc147 := NB214_259.out
                              have hnb148 := NB259_219.out
                              have hnc148 := NB219_259.out
                              have hnb149 := NB259_228.out
                              have hnc149 := NB228_259.out
                              have hcz150_0 : w137.cell? ⟨gb259, 0, none⟩ = some (.slice none 0 0) := (blk_cell BK259.out 0).trans rfl
                              have hcz150_1 : w137.cell? ⟨gb259, 1, none⟩ = some (.bool false) := (blk_cell BK259.out 1).trans rfl
                              have hfz150_0 := blk_frozen BK259.out 0
                              have hfz150_1 := blk_frozen BK259.out 1
                              have hnb151 := NB214_200.out
                              have hnc151 := NB200_214.out
                              have hnb152 := NB214_219.out
                              have hnc152 := NB219_214.out
                              have hnb153 := NB214_228.out
                              have hnc153 := NB228_214.out
                              have hcz154_0 : w137.cell? ⟨gb214, 0, none⟩ = some (.slice Ao27 t209.length co27) := (blk_cell BK214.out 0).trans rfl
                              have hcz154_1 : w137.cell? ⟨gb214, 1, none⟩ = some (.bool t212) := (blk_cell BK214.out 1).trans rfl
                              have hfz154_0 := blk_frozen BK214.out 0
                              have hfz154_1 := blk_frozen BK214.out 1
                              go_wp2_with (first | ((with_reducible refine gate_callee (f := 11) rfl ?_); refine goesL_ (some 102) rfl rfl Try.func11 (by kernel_rfl) rfl #[.agg #[.slice Ao138 t254.length co138, .bool t257], .agg #[.slice Ao27 t209.length co27, .bool t212]] rfl (by (try simp only [List.map_toArray, List.map_cons, List.map_nil]); first | done | rfl | (simp only [List.length_drop, List.length_take]; rfl)) ?_; (with_reducible refine (laws_eqGraph.calls kj73 _ _ t254 t257 _ _ t209 t212 true _ ?side1 ?side2 ?side3 ?side4 A144.out).mono ?_); (case side1 => refine (Kd.R_reads' (e := 3) (base := w.heap.size) (ok := fun k_ => (((((True ∧ some k_ ≠ (.slice Ao27 t209.length co27 : Value).ownBlock) ∧ some k_ ≠ (.slice Ao33 t240.length co33 : Value).ownBlock) ∧ some k_ ≠ (.slice Ao42 t223.length co42 : Value).ownBlock) ∧ some k_ ≠ (.slice Ao134 t247.length co134 : Value).ownBlock) ∧ some k_ ≠ (.slice Ao135 t251.length co135 : Value).ownBlock)) (n := t254.length) (c := co138) ?_).2.2; exact (by (with_reducible repeat (first | apply Kd.R_alloc | apply Kd.R_drewN | apply Kd.R_drew)); exact (Kd.R_mono (Kd.R_far (p := ⟨gb259, 1, none⟩) (Kd.R_far (p := ⟨gb259, 0, none⟩) (Kd.R_types HO256.out BK259.out (by decide)) (fun _ hk => hk.2) (.slice Ao138 t254.length co138)) (fun _ hk => hk.2) (.bool t257)) (fun _ h_ => h_.1)))); (case side2 => exact (Kd.R_reads' HO256.out).2.1); (case side3 => refine (Kd.R_reads' (e := 3) (base := w.heap.size) (ok := fun k_ => ((((some k_ ≠ (.slice Ao33 t240.length co33 : Value).ownBlock ∧ some k_ ≠ (.slice Ao42 t223.length co42 : Value).ownBlock) ∧ some k_ ≠ (.slice Ao134 t247.length co134 : Value).ownBlock) ∧ some k_ ≠ (.slice Ao135 t251.length co135 : Value).ownBlock) ∧ some k_ ≠ (.slice Ao138 t254.length co138 : Value).ownBlock)) (n := t209.length) (c := co27) ?_).2.2; exact (by (with_reducible repeat (first | apply Kd.R_alloc | apply Kd.R_drewN | apply Kd.R_drew)); exact (Kd.R_mono (Kd.R_far (p := ⟨gb259, 1, none⟩) (Kd.R_far (p := ⟨gb259, 0, none⟩) (Kd.R_types HO_215000.out BK259.out (by decide)) (fun _ hk => hk.2) (.slice Ao138 t254.length co138)) (fun _ hk => hk.2) (.bool t257)) (fun _ h_ => h_.1)))); (case side4 => exact (Kd.R_reads' HO_215000.out).2.1); rintro e w155 ⟨rfl, hb⟩; refine ⟨_, rfl, ?_⟩; have n0_ := Aside0.mk (Kd.R_below (by (with_reducible repeat (first | apply Kd.R_alloc | apply Kd.R_drewN | apply Kd.R_drew)); exact (Kd.R_mono (Kd.R_far (p := ⟨gb259, 1, none⟩) (Kd.R_far (p := ⟨gb259, 0, none⟩) (Kd.R_types HO_215000.out BK259.out (by decide)) (fun _ hk => hk.2) (.slice Ao138 t254.length co138)) (fun _ hk => hk.2) (.bool t257)) (fun _ h_ => h_.1))) hb); have n1_ := Aside0.mk (Kd.R_below (by (with_reducible repeat (first | apply Kd.R_alloc | apply Kd.R_drewN | apply Kd.R_drew)); exact (Kd.R_mono (Kd.R_far (p := ⟨gb259, 1, none⟩) (Kd.R_far (p := ⟨gb259, 0, none⟩) (Kd.R_types HO_220000.out BK259.out (by decide)) (fun _ hk => hk.2) (.slice Ao138 t254.length co138)) (fun _ hk => hk.2) (.bool t257)) (fun _ h_ => h_.1))) hb); have n2_ := Aside0.mk (Kd.R_below (by (with_reducible repeat (first | apply Kd.R_alloc | apply Kd.R_drewN | apply Kd.R_drew)); exact (Kd.R_mono (Kd.R_far (p := ⟨gb259, 1, none⟩) (Kd.R_far (p := ⟨gb259, 0, none⟩) (Kd.R_types HO_229000.out BK259.out (by decide)) (fun _ hk => hk.2) (.slice Ao138 t254.length co138)) (fun _ hk => hk.2) (.bool t257)) (fun _ h_ => h_.1))) hb); have n3_ := Aside0.mk (Kd.R_below (by (with_reducible repeat (first | apply Kd.R_alloc | apply Kd.R_drewN | apply Kd.R_drew)); exact (Kd.R_mono (Kd.R_far (p := ⟨gb259, 1, none⟩) (Kd.R_far (p := ⟨gb259, 0, none⟩) (Kd.R_types HO249.out BK259.out (by decide)) (fun _ hk => hk.2) (.slice Ao138 t254.length co138)) (fun _ hk => hk.2) (.bool t257)) (fun _ h_ => h_.1))) hb); have n4_ := Aside0.mk (Kd.R_below (by (with_reducible repeat (first | apply Kd.R_alloc | apply Kd.R_drewN | apply Kd.R_drew)); exact (Kd.R_mono (Kd.R_far (p := ⟨gb259, 1, none⟩) (Kd.R_far (p := ⟨gb259, 0, none⟩) (Kd.R_types HO253.out BK259.out (by decide)) (fun _ hk => hk.2) (.slice Ao138 t254.length co138)) (fun _ hk => hk.2) (.bool t257)) (fun _ h_ => h_.1))) hb); have n5_ := Aside0.mk (Kd.R_below (by (with_reducible repeat (first | apply Kd.R_alloc | apply Kd.R_drewN | apply Kd.R_drew)); exact (Kd.R_mono (Kd.R_far (p := ⟨gb259, 1, none⟩) (Kd.R_far (p := ⟨gb259, 0, none⟩) (Kd.R_types HO256.out BK259.out (by decide)) (fun _ hk => hk.2) (.slice Ao138 t254.length co138)) (fun _ hk => hk.2) (.bool t257)) (fun _ h_ => h_.1))) hb); have n6_ := Aside0.mk (blk_below (g := gb200) (o := .cells #[.slice A0_0 l0_0.length c0_0, .bool a0_1] 24 (0, 0)) (by (with_reducible repeat (first | refine blk_drewN ?_ _ | refine blk_drew ?_ | refine blk_alloc ?_ _)); refine blk_far ?_ NB200_259.out _; (with_reducible repeat (first | refine blk_drewN ?_ _ | refine blk_drew ?_ | refine blk_alloc ?_ _)); refine blk_far ?_ NB200_259.out _; (with_reducible repeat (first | refine blk_drewN ?_ _ | refine blk_drew ?_ | refine blk_alloc ?_ _)); exact BK200.out) hb); have n7_ := Aside0.mk (blk_below (g := gb214) (o := .cells #[.slice Ao27 t209.length co27, .bool t212] 26 (0, 0)) (by (with_reducible repeat (first | refine blk_drewN ?_ _ | refine blk_drew ?_ | refine blk_alloc ?_ _)); refine blk_far ?_ NB214_259.out _; (with_reducible repeat (first | refine blk_drewN ?_ _ | refine blk_drew ?_ | refine blk_alloc ?_ _)); refine blk_far ?_ NB214_259.out _; (with_reducible repeat (first | refine blk_drewN ?_ _ | refine blk_drew ?_ | refine blk_alloc ?_ _)); exact BK214.out) hb); have n8_ := Aside0.mk (blk_below (g := gb219) (o := .cells #[.slice Ao33 t240.length co33, .bool t218] 26 (0, 0)) (by (with_reducible repeat (first | refine blk_drewN ?_ _ | refine blk_drew ?_ | refine blk_alloc ?_ _)); refine blk_far ?_ NB219_259.out _; (with_reducible repeat (first | refine blk_drewN ?_ _ | refine blk_drew ?_ | refine blk_alloc ?_ _)); refine blk_far ?_ NB219_259.out _; (with_reducible repeat (first | refine blk_drewN ?_ _ | refine blk_drew ?_ | refine blk_alloc ?_ _)); exact BK219.out) hb); have n9_ := Aside0.mk (blk_below (g := gb228) (o := .cells #[.slice Ao42 t223.length co42, .bool t226] 26 (0, 0)) (by (with_reducible repeat (first | refine blk_drewN ?_ _ | refine blk_drew ?_ | refine blk_alloc ?_ _)); refine blk_far ?_ NB228_259.out _; (with_reducible repeat (first | refine blk_drewN ?_ _ | refine blk_drew ?_ | refine blk_alloc ?_ _)); refine blk_far ?_ NB228_259.out _; (with_reducible repeat (first | refine blk_drewN ?_ _ | refine blk_drew ?_ | refine blk_alloc ?_ _)); exact BK228.out) hb); have n10_ := Aside0.mk (blk_below (g := gb259) (o := .cells #[.slice Ao138 t254.length co138, .bool t257] 26 (0, 0)) (by (with_reducible repeat (first | refine blk_drewN ?_ _ | refine blk_drew ?_ | refine blk_alloc ?_ _)); refine blk_put (cs := #[.slice Ao138 t254.length co138, .bool false]) ?_ 1 _ rfl; (with_reducible repeat (first | refine blk_drewN ?_ _ | refine blk_drew ?_ | refine blk_alloc ?_ _)); refine blk_put (cs := #[.slice none 0 0, .bool false]) ?_ 0 _ rfl; (with_reducible repeat (first | refine blk_drewN ?_ _ | refine blk_drew ?_ | refine blk_alloc ?_ _)); exact BK259.out) hb); have n11_ := Aside0.mk (below_step (by repeat (first | (with_reducible first | exact HB.out | apply below_alloc | apply pw_below_drewN | apply below_drew1 | refine below_set ?_ GE200.out | refine below_set ?_ GE214.out | refine below_set ?_ GE219.out | refine below_set ?_ GE228.out | refine below_set ?_ GE259.out) | exact HB.out)) hb); clear HO_215000; clear HO_220000; clear HO_229000; clear HO249; clear HO253; clear HO256; clear BK200; clear BK214; clear BK219; clear BK228; clear BK259; clear HB; have HO_215000 := n0_; have HO_220000 := n1_; have HO_229000 := n2_; have HO249 := n3_; have HO253 := n4_; have HO256 := n5_; have BK200 := n6_; have BK214 := n7_; have BK219 := n8_; have BK228 := n9_; have BK259 := n10_; have HB := n11_; clear n0_ n1_ n2_ n3_ n4_ n5_ n6_ n7_ n8_ n9_ n10_ n11_; (try clear hb); (try clear hb2); (try clear hk); (try clear hi)))
                              go_meet
                              case rel => exact ⟨_, ((t258 != t213)), (by first | rfl | (simp; done) | (simp [*]; done) | (simp; cases t258 <;> simp)), H', ⟨by have := HJ15.out; have := HJ73.out; first | omega | exact Nat.le_refl _⟩, ⟨by (try simp only [hl220000_73]); (with_reducible repeat (first | apply Kd.R_alloc | apply Kd.R_drewN | apply Kd.R_drew)); exact Kd.R_mono HO_215000.out (fun _ hk => ⟨hk.1.1.1.1, ⟨hk.1.1.1.2, hk.2⟩⟩)⟩, ⟨by (try simp only [hl220000_73]); (with_reducible repeat (first | apply Kd.R_alloc | apply Kd.R_drewN | apply Kd.R_drew)); exact Kd.R_mono HO_220000.out (fun _ hk => ⟨hk.1.1.1.1, ⟨hk.1.1.1.2, hk.2⟩⟩)⟩, ⟨by (try simp only [hl220000_73]); (with_reducible repeat (first | apply Kd.R_alloc | apply Kd.R_drewN | apply Kd.R_drew)); exact Kd.R_mono HO_229000.out (fun _ hk => ⟨hk.1.1.1.1, ⟨hk.1.1.1.2, hk.2⟩⟩)⟩, ⟨by (try simp only [hl220000_73]); (with_reducible repeat (first | apply Kd.R_alloc | apply Kd.R_drewN | apply Kd.R_drew)); exact Kd.R_mono HO256.out (fun _ hk => ⟨hk.1.1.1.1.2, ⟨hk.1.1.1.2, hk.1.1.2⟩⟩)⟩, ⟨by (try simp only [hl220000_73]); (with_reducible repeat (first | refine blk_drewN ?_ _ | refine blk_drew ?_ | refine blk_alloc ?_ _)); exact BK200.out⟩, ⟨by (try simp only [hl220000_73]); (with_reducible repeat (first | refine blk_drewN ?_ _ | refine blk_drew ?_ | refine blk_alloc ?_ _)); exact BK214.out⟩, ⟨by (try simp only [hl220000_73]); (with_reducible repeat (first | refine blk_drewN ?_ _ | refine blk_drew ?_ | refine blk_alloc ?_ _)); exact BK219.out⟩, ⟨by (try simp only [hl220000_73]); (with_reducible repeat (first | refine blk_drewN ?_ _ | refine blk_drew ?_ | refine blk_alloc ?_ _)); exact BK228.out⟩, ⟨by (try simp only [hl220000_73]); (with_reducible repeat (first | refine blk_drewN ?_ _ | refine blk_drew ?_ | refine blk_alloc ?_ _)); exact BK259.out⟩, ⟨by repeat (first | (with_reducible first | exact HB.out | apply below_alloc | apply pw_below_drewN | apply below_drew1 | refine below_set ?_ GE200.out | refine below_set ?_ GE214.out | refine below_set ?_ GE219.out | refine below_set ?_ GE228.out | refine below_set ?_ GE259.out) | exact HB.out)⟩⟩
                            · replace c145 := Bool.eq_false_iff.mpr c145
                              subst c145
                              have H1 : (laws_FnExactRenameGraph.j2 kj73 t244 true t245 t226) = some r := by rw [if_neg (show ¬ (false = true) by decide)] at H; exact H
                              clear H
                              have H := H1
                              clear H1
                              have H' := Aside0.mk H
                              clear H
                              have hnb156 := NB259_200.out
                              have hnc156 := NB200_259.out
                              have hnb157 := NB259_214.out
                              have hnc157 := NB214_259.out
                              have hnb158 := NB259_219.out
                              have hnc158 := NB219_259.out
                              have hnb159 := NB259_228.out
                              have hnc159 := NB228_259.out
                              have hcz160_0 : w137.cell? ⟨gb259, 0, none⟩ = some (.slice none 0 0) := (blk_cell BK259.out 0).trans rfl
                              have hcz160_1 : w137.cell? ⟨gb259, 1, none⟩ = some (.bool false) := (blk_cell BK259.out 1).trans rfl
                              have hfz160_0 := blk_frozen BK259.out 0
                              have hfz160_1 := blk_frozen BK259.out 1
                              have hnb161 := NB214_200.out
                              have hnc161 := NB200_214.out
                              have hnb162 := NB214_219.out
                              have hnc162 := NB219_214.out
                              have hnb163 := NB214_228.out
                              have hnc163 := NB228_214.out
                              have hcz164_0 : w137.cell? ⟨gb214, 0, none⟩ = some (.slice Ao27 t209.length co27) := (blk_cell BK214.out 0).trans rfl
                              have hcz164_1 : w137.cell? ⟨gb214, 1, none⟩ = some (.bool t212) := (blk_cell BK214.out 1).trans rfl
                              have hfz164_0 := blk_frozen BK214.out 0
                              have hfz164_1 := blk_frozen BK214.out 1
                              go_wp2_with (first | ((with_reducible refine gate_callee (f := 11) rfl ?_); refine goesL_ (some 102) rfl rfl Try.func11 (by kernel_rfl) rfl #[.agg #[.slice Ao138 t254.length co138, .bool t257], .agg #[.slice Ao27 t209.length co27, .bool t212]] rfl (by (try simp only [List.map_toArray, List.map_cons, List.map_nil]); first | done | rfl | (simp only [List.length_drop, List.length_take]; rfl)) ?_; (with_reducible refine (laws_eqGraph.calls kj73 _ _ t254 t257 _ _ t209 t212 false _ ?side1 ?side2 ?side3 ?side4 A144.out).mono ?_); (case side1 => refine (Kd.R_reads' (e := 3) (base := w.heap.size) (ok := fun k_ => (((((True ∧ some k_ ≠ (.slice Ao27 t209.length co27 : Value).ownBlock) ∧ some k_ ≠ (.slice Ao33 t240.length co33 : Value).ownBlock) ∧ some k_ ≠ (.slice Ao42 t223.length co42 : Value).ownBlock) ∧ some k_ ≠ (.slice Ao134 t247.length co134 : Value).ownBlock) ∧ some k_ ≠ (.slice Ao135 t251.length co135 : Value).ownBlock)) (n := t254.length) (c := co138) ?_).2.2; exact (by (with_reducible repeat (first | apply Kd.R_alloc | apply Kd.R_drewN | apply Kd.R_drew)); exact (Kd.R_mono (Kd.R_far (p := ⟨gb259, 1, none⟩) (Kd.R_far (p := ⟨gb259, 0, none⟩) (Kd.R_types HO256.out BK259.out (by decide)) (fun _ hk => hk.2) (.slice Ao138 t254.length co138)) (fun _ hk => hk.2) (.bool t257)) (fun _ h_ => h_.1)))); (case side2 => exact (Kd.R_reads' HO256.out).2.1); (case side3 => refine (Kd.R_reads' (e := 3) (base := w.heap.size) (ok := fun k_ => ((((some k_ ≠ (.slice Ao33 t240.length co33 : Value).ownBlock ∧ some k_ ≠ (.slice Ao42 t223.length co42 : Value).ownBlock) ∧ some k_ ≠ (.slice Ao134 t247.length co134 : Value).ownBlock) ∧ some k_ ≠ (.slice Ao135 t251.length co135 : Value).ownBlock) ∧ some k_ ≠ (.slice Ao138 t254.length co138 : Value).ownBlock)) (n := t209.length) (c := co27) ?_).2.2; exact (by (with_reducible repeat (first | apply Kd.R_alloc | apply Kd.R_drewN | apply Kd.R_drew)); exact (Kd.R_mono (Kd.R_far (p := ⟨gb259, 1, none⟩) (Kd.R_far (p := ⟨gb259, 0, none⟩) (Kd.R_types HO_215000.out BK259.out (by decide)) (fun _ hk => hk.2) (.slice Ao138 t254.length co138)) (fun _ hk => hk.2) (.bool t257)) (fun _ h_ => h_.1)))); (case side4 => exact (Kd.R_reads' HO_215000.out).2.1); rintro e w165 ⟨rfl, hb⟩; refine ⟨_, rfl, ?_⟩; have n0_ := Aside0.mk (Kd.R_below (by (with_reducible repeat (first | apply Kd.R_alloc | apply Kd.R_drewN | apply Kd.R_drew)); exact (Kd.R_mono (Kd.R_far (p := ⟨gb259, 1, none⟩) (Kd.R_far (p := ⟨gb259, 0, none⟩) (Kd.R_types HO_215000.out BK259.out (by decide)) (fun _ hk => hk.2) (.slice Ao138 t254.length co138)) (fun _ hk => hk.2) (.bool t257)) (fun _ h_ => h_.1))) hb); have n1_ := Aside0.mk (Kd.R_below (by (with_reducible repeat (first | apply Kd.R_alloc | apply Kd.R_drewN | apply Kd.R_drew)); exact (Kd.R_mono (Kd.R_far (p := ⟨gb259, 1, none⟩) (Kd.R_far (p := ⟨gb259, 0, none⟩) (Kd.R_types HO_220000.out BK259.out (by decide)) (fun _ hk => hk.2) (.slice Ao138 t254.length co138)) (fun _ hk => hk.2) (.bool t257)) (fun _ h_ => h_.1))) hb); have n2_ := Aside0.mk (Kd.R_below (by (with_reducible repeat (first | apply Kd.R_alloc | apply Kd.R_drewN | apply Kd.R_drew)); exact (Kd.R_mono (Kd.R_far (p := ⟨gb259, 1, none⟩) (Kd.R_far (p := ⟨gb259, 0, none⟩) (Kd.R_types HO_229000.out BK259.out (by decide)) (fun _ hk => hk.2) (.slice Ao138 t254.length co138)) (fun _ hk => hk.2) (.bool t257)) (fun _ h_ => h_.1))) hb); have n3_ := Aside0.mk (Kd.R_below (by (with_reducible repeat (first | apply Kd.R_alloc | apply Kd.R_drewN | apply Kd.R_drew)); exact (Kd.R_mono (Kd.R_far (p := ⟨gb259, 1, none⟩) (Kd.R_far (p := ⟨gb259, 0, none⟩) (Kd.R_types HO249.out BK259.out (by decide)) (fun _ hk => hk.2) (.slice Ao138 t254.length co138)) (fun _ hk => hk.2) (.bool t257)) (fun _ h_ => h_.1))) hb); have n4_ := Aside0.mk (Kd.R_below (by (with_reducible repeat (first | apply Kd.R_alloc | apply Kd.R_drewN | apply Kd.R_drew)); exact (Kd.R_mono (Kd.R_far (p := ⟨gb259, 1, none⟩) (Kd.R_far (p := ⟨gb259, 0, none⟩) (Kd.R_types HO253.out BK259.out (by decide)) (fun _ hk => hk.2) (.slice Ao138 t254.length co138)) (fun _ hk => hk.2) (.bool t257)) (fun _ h_ => h_.1))) hb); have n5_ := Aside0.mk (Kd.R_below (by (with_reducible repeat (first | apply Kd.R_alloc | apply Kd.R_drewN | apply Kd.R_drew)); exact (Kd.R_mono (Kd.R_far (p := ⟨gb259, 1, none⟩) (Kd.R_far (p := ⟨gb259, 0, none⟩) (Kd.R_types HO256.out BK259.out (by decide)) (fun _ hk => hk.2) (.slice Ao138 t254.length co138)) (fun _ hk => hk.2) (.bool t257)) (fun _ h_ => h_.1))) hb); have n6_ := Aside0.mk (blk_below (g := gb200) (o := .cells #[.slice A0_0 l0_0.length c0_0, .bool a0_1] 24 (0, 0)) (by (with_reducible repeat (first | refine blk_drewN ?_ _ | refine blk_drew ?_ | refine blk_alloc ?_ _)); refine blk_far ?_ NB200_259.out _; (with_reducible repeat (first | refine blk_drewN ?_ _ | refine blk_drew ?_ | refine blk_alloc ?_ _)); refine blk_far ?_ NB200_259.out _; (with_reducible repeat (first | refine blk_drewN ?_ _ | refine blk_drew ?_ | refine blk_alloc ?_ _)); exact BK200.out) hb); have n7_ := Aside0.mk (blk_below (g := gb214) (o := .cells #[.slice Ao27 t209.length co27, .bool t212] 26 (0, 0)) (by (with_reducible repeat (first | refine blk_drewN ?_ _ | refine blk_drew ?_ | refine blk_alloc ?_ _)); refine blk_far ?_ NB214_259.out _; (with_reducible repeat (first | refine blk_drewN ?_ _ | refine blk_drew ?_ | refine blk_alloc ?_ _)); refine blk_far ?_ NB214_259.out _; (with_reducible repeat (first | refine blk_drewN ?_ _ | refine blk_drew ?_ | refine blk_alloc ?_ _)); exact BK214.out) hb); have n8_ := Aside0.mk (blk_below (g := gb219) (o := .cells #[.slice Ao33 t240.length co33, .bool t218] 26 (0, 0)) (by (with_reducible repeat (first | refine blk_drewN ?_ _ | refine blk_drew ?_ | refine blk_alloc ?_ _)); refine blk_far ?_ NB219_259.out _; (with_reducible repeat (first | refine blk_drewN ?_ _ | refine blk_drew ?_ | refine blk_alloc ?_ _)); refine blk_far ?_ NB219_259.out _; (with_reducible repeat (first | refine blk_drewN ?_ _ | refine blk_drew ?_ | refine blk_alloc ?_ _)); exact BK219.out) hb); have n9_ := Aside0.mk (blk_below (g := gb228) (o := .cells #[.slice Ao42 t223.length co42, .bool t226] 26 (0, 0)) (by (with_reducible repeat (first | refine blk_drewN ?_ _ | refine blk_drew ?_ | refine blk_alloc ?_ _)); refine blk_far ?_ NB228_259.out _; (with_reducible repeat (first | refine blk_drewN ?_ _ | refine blk_drew ?_ | refine blk_alloc ?_ _)); refine blk_far ?_ NB228_259.out _; (with_reducible repeat (first | refine blk_drewN ?_ _ | refine blk_drew ?_ | refine blk_alloc ?_ _)); exact BK228.out) hb); have n10_ := Aside0.mk (blk_below (g := gb259) (o := .cells #[.slice Ao138 t254.length co138, .bool t257] 26 (0, 0)) (by (with_reducible repeat (first | refine blk_drewN ?_ _ | refine blk_drew ?_ | refine blk_alloc ?_ _)); refine blk_put (cs := #[.slice Ao138 t254.length co138, .bool false]) ?_ 1 _ rfl; (with_reducible repeat (first | refine blk_drewN ?_ _ | refine blk_drew ?_ | refine blk_alloc ?_ _)); refine blk_put (cs := #[.slice none 0 0, .bool false]) ?_ 0 _ rfl; (with_reducible repeat (first | refine blk_drewN ?_ _ | refine blk_drew ?_ | refine blk_alloc ?_ _)); exact BK259.out) hb); have n11_ := Aside0.mk (below_step (by repeat (first | (with_reducible first | exact HB.out | apply below_alloc | apply pw_below_drewN | apply below_drew1 | refine below_set ?_ GE200.out | refine below_set ?_ GE214.out | refine below_set ?_ GE219.out | refine below_set ?_ GE228.out | refine below_set ?_ GE259.out) | exact HB.out)) hb); clear HO_215000; clear HO_220000; clear HO_229000; clear HO249; clear HO253; clear HO256; clear BK200; clear BK214; clear BK219; clear BK228; clear BK259; clear HB; have HO_215000 := n0_; have HO_220000 := n1_; have HO_229000 := n2_; have HO249 := n3_; have HO253 := n4_; have HO256 := n5_; have BK200 := n6_; have BK214 := n7_; have BK219 := n8_; have BK228 := n9_; have BK259 := n10_; have HB := n11_; clear n0_ n1_ n2_ n3_ n4_ n5_ n6_ n7_ n8_ n9_ n10_ n11_; (try clear hb); (try clear hb2); (try clear hk); (try clear hi)))
                              go_meet
                              case rel => exact ⟨_, (true), (by first | rfl | (simp; done) | (simp [*]; done)), H', ⟨by have := HJ15.out; have := HJ73.out; first | omega | exact Nat.le_refl _⟩, ⟨by (try simp only [hl220000_73]); (with_reducible repeat (first | apply Kd.R_alloc | apply Kd.R_drewN | apply Kd.R_drew)); exact Kd.R_mono HO_215000.out (fun _ hk => ⟨hk.1.1.1.1, ⟨hk.1.1.1.2, hk.2⟩⟩)⟩, ⟨by (try simp only [hl220000_73]); (with_reducible repeat (first | apply Kd.R_alloc | apply Kd.R_drewN | apply Kd.R_drew)); exact Kd.R_mono HO_220000.out (fun _ hk => ⟨hk.1.1.1.1, ⟨hk.1.1.1.2, hk.2⟩⟩)⟩, ⟨by (try simp only [hl220000_73]); (with_reducible repeat (first | apply Kd.R_alloc | apply Kd.R_drewN | apply Kd.R_drew)); exact Kd.R_mono HO_229000.out (fun _ hk => ⟨hk.1.1.1.1, ⟨hk.1.1.1.2, hk.2⟩⟩)⟩, ⟨by (try simp only [hl220000_73]); (with_reducible repeat (first | apply Kd.R_alloc | apply Kd.R_drewN | apply Kd.R_drew)); exact Kd.R_mono HO256.out (fun _ hk => ⟨hk.1.1.1.1.2, ⟨hk.1.1.1.2, hk.1.1.2⟩⟩)⟩, ⟨by (try simp only [hl220000_73]); (with_reducible repeat (first | refine blk_drewN ?_ _ | refine blk_drew ?_ | refine blk_alloc ?_ _)); exact BK200.out⟩, ⟨by (try simp only [hl220000_73]); (with_reducible repeat (first | refine blk_drewN ?_ _ | refine blk_drew ?_ | refine blk_alloc ?_ _)); exact BK214.out⟩, ⟨by (try simp only [hl220000_73]); (with_reducible repeat (first | refine blk_drewN ?_ _ | refine blk_drew ?_ | refine blk_alloc ?_ _)); exact BK219.out⟩, ⟨by (try simp only [hl220000_73]); (with_reducible repeat (first | refine blk_drewN ?_ _ | refine blk_drew ?_ | refine blk_alloc ?_ _)); exact BK228.out⟩, ⟨by (try simp only [hl220000_73]); (with_reducible repeat (first | refine blk_drewN ?_ _ | refine blk_drew ?_ | refine blk_alloc ?_ _)); exact BK259.out⟩, ⟨by repeat (first | (with_reducible first | exact HB.out | apply below_alloc | apply pw_below_drewN | apply below_drew1 | refine below_set ?_ GE200.out | refine below_set ?_ GE214.out | refine below_set ?_ GE219.out | refine below_set ?_ GE228.out | refine below_set ?_ GE259.out) | exact HB.out)⟩⟩
                          case rest => as_aux_lemma =>
                            clear HC121
                            try clear c1
                            try clear c2
                            try clear p2
                            try clear c3
                            try clear c3b0
                            try clear c3b1
                            try clear c4
                            try clear c5
                            try clear c6
                            try clear c6b0
                            try clear c7
                            try clear c8
                            try clear c9
                            try clear c10
                            try clear c11
                            try clear c12
                            try clear c13
                            try clear c14
                            try clear c15
                            try clear c16
                            try clear c23
                            try clear c24
                            try clear c25
                            try clear c26
                            try clear c27
                            try clear c28
                            try clear c34
                            try clear c35
                            try clear c43
                            try clear c44
                            try clear c45
                            try clear c48
                            try clear c49
                            try clear c50
                            try clear c51
                            try clear c53
                            try clear c54
                            try clear c57
                            try clear c58
                            try clear c59
                            try clear c61
                            try clear c62
                            try clear c65
                            try clear c68
                            try clear c71
                            try clear c81
                            try clear c82
                            try clear c83
                            try clear c87
                            try clear c87b0
                            try clear c89
                            try clear c90
                            try clear c91
                            try clear c92
                            try clear c94
                            try clear c95
                            try clear c98
                            try clear c99
                            try clear c100
                            try clear c102
                            try clear c103
                            try clear c106
                            try clear c109
                            try clear c109b0
                            try clear c110
                            try clear c111
                            try clear c112
                            try clear c117
                            try clear c117b0
                            try clear c117b1
                            try clear c122
                            try clear c123
                            try clear c124
                            try clear c129
                            try clear c130
                            try clear c139
                            try clear c140
                            try clear c141
                            try clear c142
                            try clear c145
                            try clear c146
                            try clear c147
                            try clear c148
                            try clear c149
                            try clear c151
                            try clear c152
                            try clear c153
                            try clear c156
                            try clear c157
                            try clear c158
                            try clear c159
                            try clear c161
                            try clear c162
                            try clear c163
                            try clear hcz101_0
                            try clear hcz101_1
                            try clear hcz104_0
                            try clear hcz104_1
                            try clear hcz113_0
                            try clear hcz113_1
                            try clear hcz115_0
                            try clear hcz115_1
                            try clear hcz125_0
                            try clear hcz125_1
                            try clear hcz127_0
                            try clear hcz127_1
                            try clear hcz131_0
                            try clear hcz131_1
                            try clear hcz143_0
                            try clear hcz143_1
                            try clear hcz150_0
                            try clear hcz150_1
                            try clear hcz154_0
                            try clear hcz154_1
                            try clear hcz160_0
                            try clear hcz160_1
                            try clear hcz164_0
                            try clear hcz164_1
                            try clear hcz18_0
                            try clear hcz18_1
                            try clear hcz20_0
                            try clear hcz20_1
                            try clear hcz29_0
                            try clear hcz29_1
                            try clear hcz30_0
                            try clear hcz30_1
                            try clear hcz36_0
                            try clear hcz36_1
                            try clear hcz38_0
                            try clear hcz38_1
                            try clear hcz46_0
                            try clear hcz46_1
                            try clear hcz52_0
                            try clear hcz52_1
                            try clear hcz55_0
                            try clear hcz55_1
                            try clear hcz60_0
                            try clear hcz60_1
                            try clear hcz63_0
                            try clear hcz63_1
                            try clear hcz84_0
                            try clear hcz84_1
                            try clear hcz8_0
                            try clear hcz8_1
                            try clear hcz93_0
                            try clear hcz93_1
                            try clear hcz96_0
                            try clear hcz96_1
                            try clear hfz101_0
                            try clear hfz101_1
                            try clear hfz104_0
                            try clear hfz104_1
                            try clear hfz113_0
                            try clear hfz113_1
                            try clear hfz115_0
                            try clear hfz115_1
                            try clear hfz125_0
                            try clear hfz125_1
                            try clear hfz127_0
                            try clear hfz127_1
                            try clear hfz131_0
                            try clear hfz131_1
                            try clear hfz143_0
                            try clear hfz143_1
                            try clear hfz150_0
                            try clear hfz150_1
                            try clear hfz154_0
                            try clear hfz154_1
                            try clear hfz160_0
                            try clear hfz160_1
                            try clear hfz164_0
                            try clear hfz164_1
                            try clear hfz18_0
                            try clear hfz18_1
                            try clear hfz20_0
                            try clear hfz20_1
                            try clear hfz29_0
                            try clear hfz29_1
                            try clear hfz30_0
                            try clear hfz30_1
                            try clear hfz36_0
                            try clear hfz36_1
                            try clear hfz38_0
                            try clear hfz38_1
                            try clear hfz46_0
                            try clear hfz46_1
                            try clear hfz52_0
                            try clear hfz52_1
                            try clear hfz55_0
                            try clear hfz55_1
                            try clear hfz60_0
                            try clear hfz60_1
                            try clear hfz63_0
                            try clear hfz63_1
                            try clear hfz84_0
                            try clear hfz84_1
                            try clear hfz8_0
                            try clear hfz8_1
                            try clear hfz93_0
                            try clear hfz93_1
                            try clear hfz96_0
                            try clear hfz96_1
                            try clear p2
                            obtain ⟨kq, x108_120, rfl, HA, HJ120, HO_215000, HO_220000, HO_229000, HO_260000, BK200, BK214, BK219, BK228, BK259, HB⟩ := hcut
                            have hl229000_120 := (Kd.R_reads' HO_229000.out).1
                            rw [hl229000_120] at HO_229000
                            (try simp only [hl229000_120])
                            (try simp only [hl229000_120] at BK200)
                            (try simp only [hl229000_120] at BK214)
                            (try simp only [hl229000_120] at BK219)
                            (try simp only [hl229000_120] at BK228)
                            (try simp only [hl229000_120] at BK259)
                            (try simp only [hl229000_120] at HO_215000)
                            (try simp only [hl229000_120] at HO_220000)
                            (try simp only [hl229000_120] at HO_260000)
                            cases kq with
                            | zero => exact absurd HA.out (by simp [laws_FnExactRenameGraph.j2])
                            | succ kj120 =>
                              have H := HA.out
                              clear HA
                              simp only [laws_FnExactRenameGraph.j2] at H
                              by_cases c166 : x108_120 = true
                              · subst c166
                                have H1 : (some false) = some r := by rw [if_pos rfl] at H; exact H
                                clear H
                                have H := H1
                                clear H1
                                obtain rfl := Option.some.inj H
                                go_wp2
                                go_ret
                                exact ⟨by first | rfl | (simp [errW_none, errW_some] <;> rfl) | (simp [*, errW_none, errW_some] <;> rfl), by repeat (first | (with_reducible first | exact HB.out | apply below_alloc | apply pw_below_drewN | apply below_drew1 | refine below_set ?_ GE200.out | refine below_set ?_ GE214.out | refine below_set ?_ GE219.out | refine below_set ?_ GE228.out | refine below_set ?_ GE259.out) | exact HB.out)⟩
                              · replace c166 := Bool.eq_false_iff.mpr c166
                                subst c166
                                have H1 : ((laws_heldGraph.f kj120 t245 t226 1).bind fun t261 => (if t261 < 0 then (some false) else (if t261 = t244 then (some true) else (some false)))) = some r := by rw [if_neg (show ¬ (false = true) by decide)] at H; exact H
                                clear H
                                have H := H1
                                clear H1
                                replace H := Option.bind_eq_some_iff.mp H
                                obtain ⟨t261, A1670, H⟩ := H
                                replace H : (if t261 < 0 then (some false) else (if t261 = t244 then (some true) else (some false))) = some r := H
                                have A167 := Aside0.mk A1670
                                clear A1670
                                by_cases c168 : t261 < 0
                                · rw [if_pos c168] at H
                                  have c168b0 : decide (t261 < 0) = true := decide_eq_true c168
                                  clear c168
                                  obtain rfl := Option.some.inj H
                                  have hnb169 := NB228_200.out
                                  have hnc169 := NB200_228.out
                                  have hnb170 := NB228_214.out
                                  have hnc170 := NB214_228.out
                                  have hnb171 := NB228_219.out
                                  have hnc171 := NB219_228.out
                                  have hnb172 := NB228_259.out
                                  have hnc172 := NB259_228.out
                                  have hcz173_0 : wc.cell? ⟨gb228, 0, none⟩ = some (.slice Ao42 t245.length co42) := (blk_cell BK228.out 0).trans rfl
                                  have hcz173_1 : wc.cell? ⟨gb228, 1, none⟩ = some (.bool t226) := (blk_cell BK228.out 1).trans rfl
                                  have hfz173_0 := blk_frozen BK228.out 0
                                  have hfz173_1 := blk_frozen BK228.out 1
                                  go_wp2_with (first | ((with_reducible refine gate_callee (f := 13) rfl ?_); refine goesL_ (some 111) rfl rfl Try.func13 (by kernel_rfl) rfl #[.agg #[.slice Ao42 t245.length co42, .bool t226], .int .i64 1] rfl (by (try simp only [List.map_toArray, List.map_cons, List.map_nil]); first | done | rfl | (simp only [List.length_drop, List.length_take]; rfl)) ?_; (with_reducible refine (laws_heldGraph.calls kj120 _ _ t245 t226 1 t261 _ ?side1 ?side2 A167.out).mono ?_); (case side1 => repeat (first | exact (Kd.R_reads' HO_229000.out).2.2 | (with_reducible refine Kd.C_alloc ?_ _) | (with_reducible refine Kd.C_drewN ?_ _) | (with_reducible refine Kd.C_drew ?_))); (case side2 => exact (Kd.R_reads' HO_229000.out).2.1); rintro e w174 ⟨rfl, hb⟩; refine ⟨_, rfl, ?_⟩; have n0_ := Aside0.mk (Kd.R_below (by (with_reducible repeat (first | apply Kd.R_alloc | apply Kd.R_drewN | apply Kd.R_drew)); exact HO_215000.out) hb); have n1_ := Aside0.mk (Kd.R_below (by (with_reducible repeat (first | apply Kd.R_alloc | apply Kd.R_drewN | apply Kd.R_drew)); exact HO_220000.out) hb); have n2_ := Aside0.mk (Kd.R_below (by (with_reducible repeat (first | apply Kd.R_alloc | apply Kd.R_drewN | apply Kd.R_drew)); exact HO_229000.out) hb); have n3_ := Aside0.mk (Kd.R_below (by (with_reducible repeat (first | apply Kd.R_alloc | apply Kd.R_drewN | apply Kd.R_drew)); exact HO_260000.out) hb); have n4_ := Aside0.mk (blk_below (g := gb200) (o := .cells #[.slice A0_0 l0_0.length c0_0, .bool a0_1] 24 (0, 0)) (by (with_reducible repeat (first | refine blk_drewN ?_ _ | refine blk_drew ?_ | refine blk_alloc ?_ _)); exact BK200.out) hb); have n5_ := Aside0.mk (blk_below (g := gb214) (o := .cells #[.slice Ao27 t209.length co27, .bool t212] 26 (0, 0)) (by (with_reducible repeat (first | refine blk_drewN ?_ _ | refine blk_drew ?_ | refine blk_alloc ?_ _)); exact BK214.out) hb); have n6_ := Aside0.mk (blk_below (g := gb219) (o := .cells #[.slice Ao33 t240.length co33, .bool t218] 26 (0, 0)) (by (with_reducible repeat (first | refine blk_drewN ?_ _ | refine blk_drew ?_ | refine blk_alloc ?_ _)); exact BK219.out) hb); have n7_ := Aside0.mk (blk_below (g := gb228) (o := .cells #[.slice Ao42 t245.length co42, .bool t226] 26 (0, 0)) (by (with_reducible repeat (first | refine blk_drewN ?_ _ | refine blk_drew ?_ | refine blk_alloc ?_ _)); exact BK228.out) hb); have n8_ := Aside0.mk (blk_below (g := gb259) (o := .cells #[.slice Ao138 t254.length co138, .bool t257] 26 (0, 0)) (by (with_reducible repeat (first | refine blk_drewN ?_ _ | refine blk_drew ?_ | refine blk_alloc ?_ _)); exact BK259.out) hb); have n9_ := Aside0.mk (below_step (by repeat (first | (with_reducible first | exact HB.out | apply below_alloc | apply pw_below_drewN | apply below_drew1 | refine below_set ?_ GE200.out | refine below_set ?_ GE214.out | refine below_set ?_ GE219.out | refine below_set ?_ GE228.out | refine below_set ?_ GE259.out) | exact HB.out)) hb); clear HO_215000; clear HO_220000; clear HO_229000; clear HO_260000; clear BK200; clear BK214; clear BK219; clear BK228; clear BK259; clear HB; have HO_215000 := n0_; have HO_220000 := n1_; have HO_229000 := n2_; have HO_260000 := n3_; have BK200 := n4_; have BK214 := n5_; have BK219 := n6_; have BK228 := n7_; have BK259 := n8_; have HB := n9_; clear n0_ n1_ n2_ n3_ n4_ n5_ n6_ n7_ n8_ n9_; (try clear hb); (try clear hb2); (try clear hk); (try clear hi)))
                                  go_ret
                                  exact ⟨by first | rfl | (simp [errW_none, errW_some] <;> rfl) | (simp [*, errW_none, errW_some] <;> rfl), by repeat (first | (with_reducible first | exact HB.out | apply below_alloc | apply pw_below_drewN | apply below_drew1 | refine below_set ?_ GE200.out | refine below_set ?_ GE214.out | refine below_set ?_ GE219.out | refine below_set ?_ GE228.out | refine below_set ?_ GE259.out) | exact HB.out)⟩
                                · rw [if_neg c168] at H
                                  have c168b0 : decide (t261 < 0) = false := decide_eq_false c168
                                  clear c168
                                  by_cases c175 : t261 = t244
                                  · rw [if_pos c175] at H
                                    have c175b0 : (t261 == t244) = true := beq_iff_eq.mpr c175
                                    have c175b1 : (t261 != t244) = false := bne_eq_false_iff_eq.mpr c175
                                    clear c175
                                    obtain rfl := Option.some.inj H
                                    have hnb176 := NB228_200.out
                                    have hnc176 := NB200_228.out
                                    have hnb177 := NB228_214.out
                                    have hnc177 := NB214_228.out
                                    have hnb178 := NB228_219.out
                                    have hnc178 := NB219_228.out
                                    have hnb179 := NB228_259.out
                                    have hnc179 := NB259_228.out
                                    have hcz180_0 : wc.cell? ⟨gb228, 0, none⟩ = some (.slice Ao42 t245.length co42) := (blk_cell BK228.out 0).trans rfl
                                    have hcz180_1 : wc.cell? ⟨gb228, 1, none⟩ = some (.bool t226) := (blk_cell BK228.out 1).trans rfl
                                    have hfz180_0 := blk_frozen BK228.out 0
                                    have hfz180_1 := blk_frozen BK228.out 1
                                    go_wp2_with (first | ((with_reducible refine gate_callee (f := 13) rfl ?_); refine goesL_ (some 111) rfl rfl Try.func13 (by kernel_rfl) rfl #[.agg #[.slice Ao42 t245.length co42, .bool t226], .int .i64 1] rfl (by (try simp only [List.map_toArray, List.map_cons, List.map_nil]); first | done | rfl | (simp only [List.length_drop, List.length_take]; rfl)) ?_; (with_reducible refine (laws_heldGraph.calls kj120 _ _ t245 t226 1 t261 _ ?side1 ?side2 A167.out).mono ?_); (case side1 => repeat (first | exact (Kd.R_reads' HO_229000.out).2.2 | (with_reducible refine Kd.C_alloc ?_ _) | (with_reducible refine Kd.C_drewN ?_ _) | (with_reducible refine Kd.C_drew ?_))); (case side2 => exact (Kd.R_reads' HO_229000.out).2.1); rintro e w181 ⟨rfl, hb⟩; refine ⟨_, rfl, ?_⟩; have n0_ := Aside0.mk (Kd.R_below (by (with_reducible repeat (first | apply Kd.R_alloc | apply Kd.R_drewN | apply Kd.R_drew)); exact HO_215000.out) hb); have n1_ := Aside0.mk (Kd.R_below (by (with_reducible repeat (first | apply Kd.R_alloc | apply Kd.R_drewN | apply Kd.R_drew)); exact HO_220000.out) hb); have n2_ := Aside0.mk (Kd.R_below (by (with_reducible repeat (first | apply Kd.R_alloc | apply Kd.R_drewN | apply Kd.R_drew)); exact HO_229000.out) hb); have n3_ := Aside0.mk (Kd.R_below (by (with_reducible repeat (first | apply Kd.R_alloc | apply Kd.R_drewN | apply Kd.R_drew)); exact HO_260000.out) hb); have n4_ := Aside0.mk (blk_below (g := gb200) (o := .cells #[.slice A0_0 l0_0.length c0_0, .bool a0_1] 24 (0, 0)) (by (with_reducible repeat (first | refine blk_drewN ?_ _ | refine blk_drew ?_ | refine blk_alloc ?_ _)); exact BK200.out) hb); have n5_ := Aside0.mk (blk_below (g := gb214) (o := .cells #[.slice Ao27 t209.length co27, .bool t212] 26 (0, 0)) (by (with_reducible repeat (first | refine blk_drewN ?_ _ | refine blk_drew ?_ | refine blk_alloc ?_ _)); exact BK214.out) hb); have n6_ := Aside0.mk (blk_below (g := gb219) (o := .cells #[.slice Ao33 t240.length co33, .bool t218] 26 (0, 0)) (by (with_reducible repeat (first | refine blk_drewN ?_ _ | refine blk_drew ?_ | refine blk_alloc ?_ _)); exact BK219.out) hb); have n7_ := Aside0.mk (blk_below (g := gb228) (o := .cells #[.slice Ao42 t245.length co42, .bool t226] 26 (0, 0)) (by (with_reducible repeat (first | refine blk_drewN ?_ _ | refine blk_drew ?_ | refine blk_alloc ?_ _)); exact BK228.out) hb); have n8_ := Aside0.mk (blk_below (g := gb259) (o := .cells #[.slice Ao138 t254.length co138, .bool t257] 26 (0, 0)) (by (with_reducible repeat (first | refine blk_drewN ?_ _ | refine blk_drew ?_ | refine blk_alloc ?_ _)); exact BK259.out) hb); have n9_ := Aside0.mk (below_step (by repeat (first | (with_reducible first | exact HB.out | apply below_alloc | apply pw_below_drewN | apply below_drew1 | refine below_set ?_ GE200.out | refine below_set ?_ GE214.out | refine below_set ?_ GE219.out | refine below_set ?_ GE228.out | refine below_set ?_ GE259.out) | exact HB.out)) hb); clear HO_215000; clear HO_220000; clear HO_229000; clear HO_260000; clear BK200; clear BK214; clear BK219; clear BK228; clear BK259; clear HB; have HO_215000 := n0_; have HO_220000 := n1_; have HO_229000 := n2_; have HO_260000 := n3_; have BK200 := n4_; have BK214 := n5_; have BK219 := n6_; have BK228 := n7_; have BK259 := n8_; have HB := n9_; clear n0_ n1_ n2_ n3_ n4_ n5_ n6_ n7_ n8_ n9_; (try clear hb); (try clear hb2); (try clear hk); (try clear hi)))
                                    go_ret
                                    exact ⟨by first | rfl | (simp [errW_none, errW_some] <;> rfl) | (simp [*, errW_none, errW_some] <;> rfl), by repeat (first | (with_reducible first | exact HB.out | apply below_alloc | apply pw_below_drewN | apply below_drew1 | refine below_set ?_ GE200.out | refine below_set ?_ GE214.out | refine below_set ?_ GE219.out | refine below_set ?_ GE228.out | refine below_set ?_ GE259.out) | exact HB.out)⟩
                                  · rw [if_neg c175] at H
                                    have c175b0 : (t261 == t244) = false := beq_eq_false_iff_ne.mpr c175
                                    have c175b1 : (t261 != t244) = true := bne_iff_ne.mpr c175
                                    obtain rfl := Option.some.inj H
                                    have hnb182 := NB228_200.out
                                    have hnc182 := NB200_228.out
                                    have hnb183 := NB228_214.out
                                    have hnc183 := NB214_228.out
                                    have hnb184 := NB228_219.out
                                    have hnc184 := NB219_228.out
                                    have hnb185 := NB228_259.out
                                    have hnc185 := NB259_228.out
                                    have hcz186_0 : wc.cell? ⟨gb228, 0, none⟩ = some (.slice Ao42 t245.length co42) := (blk_cell BK228.out 0).trans rfl
                                    have hcz186_1 : wc.cell? ⟨gb228, 1, none⟩ = some (.bool t226) := (blk_cell BK228.out 1).trans rfl
                                    have hfz186_0 := blk_frozen BK228.out 0
                                    have hfz186_1 := blk_frozen BK228.out 1
                                    go_wp2_with (first | ((with_reducible refine gate_callee (f := 13) rfl ?_); refine goesL_ (some 111) rfl rfl Try.func13 (by kernel_rfl) rfl #[.agg #[.slice Ao42 t245.length co42, .bool t226], .int .i64 1] rfl (by (try simp only [List.map_toArray, List.map_cons, List.map_nil]); first | done | rfl | (simp only [List.length_drop, List.length_take]; rfl)) ?_; (with_reducible refine (laws_heldGraph.calls kj120 _ _ t245 t226 1 t261 _ ?side1 ?side2 A167.out).mono ?_); (case side1 => repeat (first | exact (Kd.R_reads' HO_229000.out).2.2 | (with_reducible refine Kd.C_alloc ?_ _) | (with_reducible refine Kd.C_drewN ?_ _) | (with_reducible refine Kd.C_drew ?_))); (case side2 => exact (Kd.R_reads' HO_229000.out).2.1); rintro e w187 ⟨rfl, hb⟩; refine ⟨_, rfl, ?_⟩; have n0_ := Aside0.mk (Kd.R_below (by (with_reducible repeat (first | apply Kd.R_alloc | apply Kd.R_drewN | apply Kd.R_drew)); exact HO_215000.out) hb); have n1_ := Aside0.mk (Kd.R_below (by (with_reducible repeat (first | apply Kd.R_alloc | apply Kd.R_drewN | apply Kd.R_drew)); exact HO_220000.out) hb); have n2_ := Aside0.mk (Kd.R_below (by (with_reducible repeat (first | apply Kd.R_alloc | apply Kd.R_drewN | apply Kd.R_drew)); exact HO_229000.out) hb); have n3_ := Aside0.mk (Kd.R_below (by (with_reducible repeat (first | apply Kd.R_alloc | apply Kd.R_drewN | apply Kd.R_drew)); exact HO_260000.out) hb); have n4_ := Aside0.mk (blk_below (g := gb200) (o := .cells #[.slice A0_0 l0_0.length c0_0, .bool a0_1] 24 (0, 0)) (by (with_reducible repeat (first | refine blk_drewN ?_ _ | refine blk_drew ?_ | refine blk_alloc ?_ _)); exact BK200.out) hb); have n5_ := Aside0.mk (blk_below (g := gb214) (o := .cells #[.slice Ao27 t209.length co27, .bool t212] 26 (0, 0)) (by (with_reducible repeat (first | refine blk_drewN ?_ _ | refine blk_drew ?_ | refine blk_alloc ?_ _)); exact BK214.out) hb); have n6_ := Aside0.mk (blk_below (g := gb219) (o := .cells #[.slice Ao33 t240.length co33, .bool t218] 26 (0, 0)) (by (with_reducible repeat (first | refine blk_drewN ?_ _ | refine blk_drew ?_ | refine blk_alloc ?_ _)); exact BK219.out) hb); have n7_ := Aside0.mk (blk_below (g := gb228) (o := .cells #[.slice Ao42 t245.length co42, .bool t226] 26 (0, 0)) (by (with_reducible repeat (first | refine blk_drewN ?_ _ | refine blk_drew ?_ | refine blk_alloc ?_ _)); exact BK228.out) hb); have n8_ := Aside0.mk (blk_below (g := gb259) (o := .cells #[.slice Ao138 t254.length co138, .bool t257] 26 (0, 0)) (by (with_reducible repeat (first | refine blk_drewN ?_ _ | refine blk_drew ?_ | refine blk_alloc ?_ _)); exact BK259.out) hb); have n9_ := Aside0.mk (below_step (by repeat (first | (with_reducible first | exact HB.out | apply below_alloc | apply pw_below_drewN | apply below_drew1 | refine below_set ?_ GE200.out | refine below_set ?_ GE214.out | refine below_set ?_ GE219.out | refine below_set ?_ GE228.out | refine below_set ?_ GE259.out) | exact HB.out)) hb); clear HO_215000; clear HO_220000; clear HO_229000; clear HO_260000; clear BK200; clear BK214; clear BK219; clear BK228; clear BK259; clear HB; have HO_215000 := n0_; have HO_220000 := n1_; have HO_229000 := n2_; have HO_260000 := n3_; have BK200 := n4_; have BK214 := n5_; have BK219 := n6_; have BK228 := n7_; have BK259 := n8_; have HB := n9_; clear n0_ n1_ n2_ n3_ n4_ n5_ n6_ n7_ n8_ n9_; (try clear hb); (try clear hb2); (try clear hk); (try clear hi)))
                                    go_ret
                                    exact ⟨by first | rfl | (simp [errW_none, errW_some] <;> rfl) | (simp [*, errW_none, errW_some] <;> rfl), by repeat (first | (with_reducible first | exact HB.out | apply below_alloc | apply pw_below_drewN | apply below_drew1 | refine below_set ?_ GE200.out | refine below_set ?_ GE214.out | refine below_set ?_ GE219.out | refine below_set ?_ GE228.out | refine below_set ?_ GE259.out) | exact HB.out)⟩
                        · rw [if_neg c117] at H
                          have c117b0 : (t246 == t244) = false := beq_eq_false_iff_ne.mpr c117
                          have c117b1 : (t246 != t244) = true := bne_iff_ne.mpr c117
                          obtain rfl := Option.some.inj H
                          have hnb188 := NB228_200.out
                          have hnc188 := NB200_228.out
                          have hnb189 := NB228_214.out
                          have hnc189 := NB214_228.out
                          have hnb190 := NB228_219.out
                          have hnc190 := NB219_228.out
                          have hcz191_0 : wc.cell? ⟨gb228, 0, none⟩ = some (.slice Ao42 t223.length co42) := (blk_cell BK228.out 0).trans rfl
                          have hcz191_1 : wc.cell? ⟨gb228, 1, none⟩ = some (.bool t226) := (blk_cell BK228.out 1).trans rfl
                          have hfz191_0 := blk_frozen BK228.out 0
                          have hfz191_1 := blk_frozen BK228.out 1
                          go_wp2_with (first | ((with_reducible refine gate_callee (f := 12) rfl ?_); refine goesL_ (some 83) rfl rfl Try.func12 (by kernel_rfl) rfl #[.agg #[.slice Ao42 t223.length co42, .bool t226], .int .i64 1] rfl (by (try simp only [List.map_toArray, List.map_cons, List.map_nil]); first | done | rfl | (simp only [List.length_drop, List.length_take]; rfl)) ?_; (with_reducible refine (laws_markGraph.calls kj73 (fun k_ => some k_ = (.slice Ao42 t223.length co42 : Value).ownBlock) (.slice Ao42 t223.length co42) t223 t226 1 t244 t245 w _ ?side1 ?side2 A107.out).mono ?_); (case side1 => repeat (first | (with_reducible first | exact HB.out | apply below_alloc | apply pw_below_drewN | apply below_drew1 | refine below_set ?_ GE200.out | refine below_set ?_ GE214.out | refine below_set ?_ GE219.out | refine below_set ?_ GE228.out) | exact HB.out)); (case side2 => exact Kd.R_tight rfl HO_229000.out); rintro e w192 ⟨rfl, hy0, hb, hkp⟩; refine ⟨_, rfl, ?_⟩; have n0_ := Aside0.mk (Kd.R_mono (ok' := fun k_ => some k_ ≠ (.slice Ao33 t240.length co33 : Value).ownBlock ∧ some k_ ≠ (.slice Ao42 t223.length co42 : Value).ownBlock) (Kd.R_keptB (HO_215000.out) hkp (fun k_ hk_ hs_ => (hk_.2) hs_)) (fun k_ hk_ => ⟨hk_.1.1, hk_.1.2⟩)); have n1_ := Aside0.mk (Kd.R_mono (ok' := fun k_ => some k_ ≠ (.slice Ao27 t209.length co27 : Value).ownBlock ∧ some k_ ≠ (.slice Ao42 t223.length co42 : Value).ownBlock) (Kd.R_keptB (HO_220000.out) hkp (fun k_ hk_ hs_ => (hk_.2) hs_)) (fun k_ hk_ => ⟨hk_.1.1, hk_.1.2⟩)); have n2_ := Aside0.mk (Kd.R_reok rfl hy0 (fun k_ e_ => HO_229000.out.1 k_ e_)); have n3_ := Aside0.mk (blk_kept (g := gb200) (by first | exact BK200.out | ((with_reducible repeat (first | refine blk_drewN ?_ _ | refine blk_drew ?_ | refine blk_alloc ?_ _)); exact BK200.out)) hkp (Kd.R_ne HO_229000.out BK200.out (by decide))); have n4_ := Aside0.mk (blk_kept (g := gb214) (by first | exact BK214.out | ((with_reducible repeat (first | refine blk_drewN ?_ _ | refine blk_drew ?_ | refine blk_alloc ?_ _)); exact BK214.out)) hkp (Kd.R_ne HO_229000.out BK214.out (by decide))); have n5_ := Aside0.mk (blk_kept (g := gb219) (by first | exact BK219.out | ((with_reducible repeat (first | refine blk_drewN ?_ _ | refine blk_drew ?_ | refine blk_alloc ?_ _)); exact BK219.out)) hkp (Kd.R_ne HO_229000.out BK219.out (by decide))); have n6_ := Aside0.mk (blk_kept (g := gb228) (by first | exact BK228.out | ((with_reducible repeat (first | refine blk_drewN ?_ _ | refine blk_drew ?_ | refine blk_alloc ?_ _)); exact BK228.out)) hkp (Kd.R_ne HO_229000.out BK228.out (by decide))); have n7_ := Aside0.mk (hb); clear HO_215000; clear HO_220000; clear HO_229000; clear BK200; clear BK214; clear BK219; clear BK228; clear HB; have HO_215000 := n0_; have HO_220000 := n1_; have HO_229000 := n2_; have BK200 := n3_; have BK214 := n4_; have BK219 := n5_; have BK228 := n6_; have HB := n7_; clear n0_ n1_ n2_ n3_ n4_ n5_ n6_ n7_; (try clear hb); (try clear hkp); (try clear hy0); have hcz193_0 : w192.cell? ⟨gb228, 0, none⟩ = some (.slice Ao42 t223.length co42) := (blk_cell BK228.out 0).trans rfl; have hcz193_1 : w192.cell? ⟨gb228, 1, none⟩ = some (.bool t226) := (blk_cell BK228.out 1).trans rfl; have hfz193_0 := blk_frozen BK228.out 0; have hfz193_1 := blk_frozen BK228.out 1) | ((with_reducible refine gate_callee (f := 13) rfl ?_); refine goesL_ (some 86) rfl rfl Try.func13 (by kernel_rfl) rfl #[.agg #[.slice Ao42 t245.length co42, .bool t226], .int .i64 1] rfl (by (try simp only [List.map_toArray, List.map_cons, List.map_nil]); first | done | (rw [show t245.length = t223.length from (Kd.R_reads' HO_229000.out).1.symm] <;> rfl) | rfl | (simp only [List.length_drop, List.length_take]; rfl)) ?_; (with_reducible refine (laws_heldGraph.calls kj73 _ _ t245 t226 1 t246 _ ?side1 ?side2 A108.out).mono ?_); (case side1 => repeat (first | exact (Kd.R_reads' HO_229000.out).2.2 | (with_reducible refine Kd.C_alloc ?_ _) | (with_reducible refine Kd.C_drewN ?_ _) | (with_reducible refine Kd.C_drew ?_))); (case side2 => rw [show t245.length = t223.length from (Kd.R_reads' HO_229000.out).1.symm]; exact (Kd.R_reads' HO_229000.out).2.1); rintro e w194 ⟨rfl, hb⟩; refine ⟨_, rfl, ?_⟩; have n0_ := Aside0.mk (Kd.R_below (by (with_reducible repeat (first | apply Kd.R_alloc | apply Kd.R_drewN | apply Kd.R_drew)); exact HO_215000.out) hb); have n1_ := Aside0.mk (Kd.R_below (by (with_reducible repeat (first | apply Kd.R_alloc | apply Kd.R_drewN | apply Kd.R_drew)); exact HO_220000.out) hb); have n2_ := Aside0.mk (Kd.R_below (by (with_reducible repeat (first | apply Kd.R_alloc | apply Kd.R_drewN | apply Kd.R_drew)); exact HO_229000.out) hb); have n3_ := Aside0.mk (blk_below (g := gb200) (o := .cells #[.slice A0_0 l0_0.length c0_0, .bool a0_1] 24 (0, 0)) (by (with_reducible repeat (first | refine blk_drewN ?_ _ | refine blk_drew ?_ | refine blk_alloc ?_ _)); exact BK200.out) hb); have n4_ := Aside0.mk (blk_below (g := gb214) (o := .cells #[.slice Ao27 t209.length co27, .bool t212] 26 (0, 0)) (by (with_reducible repeat (first | refine blk_drewN ?_ _ | refine blk_drew ?_ | refine blk_alloc ?_ _)); exact BK214.out) hb); have n5_ := Aside0.mk (blk_below (g := gb219) (o := .cells #[.slice Ao33 t240.length co33, .bool t218] 26 (0, 0)) (by (with_reducible repeat (first | refine blk_drewN ?_ _ | refine blk_drew ?_ | refine blk_alloc ?_ _)); exact BK219.out) hb); have n6_ := Aside0.mk (blk_below (g := gb228) (o := .cells #[.slice Ao42 t223.length co42, .bool t226] 26 (0, 0)) (by (with_reducible repeat (first | refine blk_drewN ?_ _ | refine blk_drew ?_ | refine blk_alloc ?_ _)); exact BK228.out) hb); have n7_ := Aside0.mk (below_step (by repeat (first | (with_reducible first | exact HB.out | apply below_alloc | apply pw_below_drewN | apply below_drew1 | refine below_set ?_ GE200.out | refine below_set ?_ GE214.out | refine below_set ?_ GE219.out | refine below_set ?_ GE228.out) | exact HB.out)) hb); clear HO_215000; clear HO_220000; clear HO_229000; clear BK200; clear BK214; clear BK219; clear BK228; clear HB; have HO_215000 := n0_; have HO_220000 := n1_; have HO_229000 := n2_; have BK200 := n3_; have BK214 := n4_; have BK219 := n5_; have BK228 := n6_; have HB := n7_; clear n0_ n1_ n2_ n3_ n4_ n5_ n6_ n7_; (try clear hb); (try clear hb2); (try clear hk); (try clear hi)))
                          go_ret
                          exact ⟨by first | rfl | (simp [errW_none, errW_some] <;> rfl) | (simp [*, errW_none, errW_some] <;> rfl), by repeat (first | (with_reducible first | exact HB.out | apply below_alloc | apply pw_below_drewN | apply below_drew1 | refine below_set ?_ GE200.out | refine below_set ?_ GE214.out | refine below_set ?_ GE219.out | refine below_set ?_ GE228.out) | exact HB.out)⟩
              · replace c71 := Bool.eq_false_iff.mpr c71
                subst c71
                have H1 : (some false) = some r := by rw [if_neg (show ¬ (false = true) by decide)] at H; exact H
                clear H
                have H := H1
                clear H1
                obtain rfl := Option.some.inj H
                try go_wp2
                have n0_ := Aside0.mk (Kd.R_drew HO_9.out)
                have n1_ := Aside0.mk (Kd.R_drew HO_215000.out)
                have n2_ := Aside0.mk (Kd.R_drew HO_220000.out)
                have n3_ := Aside0.mk (Kd.R_drew HO_229000.out)
                have n4_ := Aside0.mk (blk_drew BK200.out)
                have n5_ := Aside0.mk (blk_drew BK214.out)
                have n6_ := Aside0.mk (blk_drew BK219.out)
                have n7_ := Aside0.mk (blk_drew BK228.out)
                have n8_ := Aside0.mk (below_drew1 HB.out)
                clear HO_9
                clear HO_215000
                clear HO_220000
                clear HO_229000
                clear BK200
                clear BK214
                clear BK219
                clear BK228
                clear HB
                have HO_9 := n0_
                have HO_215000 := n1_
                have HO_220000 := n2_
                have HO_229000 := n3_
                have BK200 := n4_
                have BK214 := n5_
                have BK219 := n6_
                have BK228 := n7_
                have HB := n8_
                clear n0_ n1_ n2_ n3_ n4_ n5_ n6_ n7_ n8_
                refine start_ (n := 5) (S := fun w' => w'.cell? ⟨gb219, 0, none⟩ = some (.slice Ao33 t215.length co33) ∧ w'.cell? ⟨gb219, 1, none⟩ = some (.bool t218) ∧ w'.cell? ⟨gb200, 0, none⟩ = some (.slice A0_0 l0_0.length c0_0) ∧ w'.cell? ⟨gb200, 1, none⟩ = some (.bool a0_1)) (ds := []) #[false, false, false, false, false] (by kernel_rfl) rfl rfl ⟨(blk_cell BK219.out 0).trans rfl, (blk_cell BK219.out 1).trans rfl, (blk_cell BK200.out 0).trans rfl, (blk_cell BK200.out 1).trans rfl⟩ (fun hHeld => ?_)
                generalize wc.drew = w195 at HO_9 HO_215000 HO_220000 HO_229000 BK200 BK214 BK219 BK228 HB hHeld ⊢
                refine take_ (i := 0) (N := some 52) (v := ?_) (a' := ?_) #[true, false, false, false, false] rfl rfl (by kernel_rfl) (fun _ _ _ h => h) (Or.inl ⟨by rfl, ?_⟩) hHeld ?_ ?_
                rotate_left
                · rintro w' ⟨s0, s1, s2, s3⟩
                  go_simp
                  with_reducible rfl
                rotate_left
                · simp only [Act.put, List.setIfInBounds_toArray, List.set_cons_zero, List.set_cons_succ, i64_w, i32_w]
                  rfl
                refine take_ (i := 1) (N := some 53) (v := ?_) (a' := ?_) #[true, true, false, false, false] rfl rfl (by kernel_rfl) (fun _ _ _ h => h) (Or.inl ⟨by rfl, ?_⟩) hHeld ?_ ?_
                rotate_left
                · rintro w' ⟨s0, s1, s2, s3⟩
                  go_simp
                  with_reducible rfl
                rotate_left
                · simp only [Act.put, List.setIfInBounds_toArray, List.set_cons_zero, List.set_cons_succ, i64_w, i32_w]
                  rfl
                refine one_ (i := 2) (N := some 54) #[true, true, true, false, false] rfl rfl (by kernel_rfl) (by decide) (fun K hK => ?_)
                refine goes_ Try.func9 (by kernel_rfl) rfl #[.agg #[.slice A0_0 l0_0.length c0_0, .bool a0_1]] (by rfl) rfl rfl (by (try simp only [List.map_toArray, List.map_cons, List.map_nil]); first | done | rfl | (simp only [List.length_drop, List.length_take]; rfl)) ?_
                with_reducible refine (laws_toGraph.calls kj15 _ _ l0_0 a0_1 t230 t233 _ ?side1 ?side2 A66.out).mono ?_
                (case side1 => repeat (first | exact (Kd.C_below HR0_0.out HB.out) | (with_reducible refine Kd.C_alloc ?_ _) | (with_reducible refine Kd.C_drewN ?_ _) | (with_reducible refine Kd.C_drew ?_)))
                (case side2 => exact HC0_0.out)
                rintro e w196 ⟨v231, rfl, ho0, hb⟩
                refine ⟨_, rfl, ?_⟩
                have n0_ := Aside0.mk (Kd.R_elder' (by (with_reducible repeat (first | apply Kd.R_alloc | apply Kd.R_drewN | apply Kd.R_drew)); exact HO_9.out) (Kd.R_base ho0) hb)
                have n1_ := Aside0.mk (Kd.R_elder' (by (with_reducible repeat (first | apply Kd.R_alloc | apply Kd.R_drewN | apply Kd.R_drew)); exact HO_215000.out) (Kd.R_base ho0) hb)
                have n2_ := Aside0.mk (Kd.R_elder' (by (with_reducible repeat (first | apply Kd.R_alloc | apply Kd.R_drewN | apply Kd.R_drew)); exact HO_220000.out) (Kd.R_base ho0) hb)
                have n3_ := Aside0.mk (Kd.R_elder' (by (with_reducible repeat (first | apply Kd.R_alloc | apply Kd.R_drewN | apply Kd.R_drew)); exact HO_229000.out) (Kd.R_base ho0) hb)
                have n4_ := Aside0.mk (Kd.R_lower (Kd.R_new' (Kd.R_new' (Kd.R_new' (Kd.R_new' ho0 (Kd.R_lt (by (with_reducible repeat (first | apply Kd.R_alloc | apply Kd.R_drewN | apply Kd.R_drew)); exact HO_9.out))) (Kd.R_lt (by (with_reducible repeat (first | apply Kd.R_alloc | apply Kd.R_drewN | apply Kd.R_drew)); exact HO_215000.out))) (Kd.R_lt (by (with_reducible repeat (first | apply Kd.R_alloc | apply Kd.R_drewN | apply Kd.R_drew)); exact HO_220000.out))) (Kd.R_lt (by (with_reducible repeat (first | apply Kd.R_alloc | apply Kd.R_drewN | apply Kd.R_drew)); exact HO_229000.out))) (below_size (by repeat (first | (with_reducible first | exact HB.out | apply below_alloc | apply pw_below_drewN | apply below_drew1 | refine below_set ?_ GE200.out | refine below_set ?_ GE214.out | refine below_set ?_ GE219.out | refine below_set ?_ GE228.out) | exact HB.out))))
                have n5_ := Aside0.mk (blk_below (g := gb200) (o := .cells #[.slice A0_0 l0_0.length c0_0, .bool a0_1] 24 (0, 0)) (by (with_reducible repeat (first | refine blk_drewN ?_ _ | refine blk_drew ?_ | refine blk_alloc ?_ _)); exact BK200.out) hb)
                have n6_ := Aside0.mk (blk_below (g := gb214) (o := .cells #[.slice Ao27 t209.length co27, .bool t212] 26 (0, 0)) (by (with_reducible repeat (first | refine blk_drewN ?_ _ | refine blk_drew ?_ | refine blk_alloc ?_ _)); exact BK214.out) hb)
                have n7_ := Aside0.mk (blk_below (g := gb219) (o := .cells #[.slice Ao33 t215.length co33, .bool t218] 26 (0, 0)) (by (with_reducible repeat (first | refine blk_drewN ?_ _ | refine blk_drew ?_ | refine blk_alloc ?_ _)); exact BK219.out) hb)
                have n8_ := Aside0.mk (blk_below (g := gb228) (o := .cells #[.slice Ao42 t223.length co42, .bool t226] 26 (0, 0)) (by (with_reducible repeat (first | refine blk_drewN ?_ _ | refine blk_drew ?_ | refine blk_alloc ?_ _)); exact BK228.out) hb)
                have n9_ := Aside0.mk (below_step (by repeat (first | (with_reducible first | exact HB.out | apply below_alloc | apply pw_below_drewN | apply below_drew1 | refine below_set ?_ GE200.out | refine below_set ?_ GE214.out | refine below_set ?_ GE219.out | refine below_set ?_ GE228.out) | exact HB.out)) hb)
                clear HO_9
                clear HO_215000
                clear HO_220000
                clear HO_229000
                clear BK200
                clear BK214
                clear BK219
                clear BK228
                clear HB
                have HO_9 := n0_
                have HO_215000 := n1_
                have HO_220000 := n2_
                have HO_229000 := n3_
                have HO232 := n4_
                have BK200 := n5_
                have BK214 := n6_
                have BK219 := n7_
                have BK228 := n8_
                have HB := n9_
                clear n0_ n1_ n2_ n3_ n4_ n5_ n6_ n7_ n8_ n9_
                (try clear hb)
                (try clear hb2)
                (try clear hk)
                (try clear hi)
                (try clear ho0)
                obtain ⟨Ao197, co197, eo197⟩ := Kd.R_slice HO232.out
                (first | subst eo197 | (injection eo197 with f1_ f2_ f3_; have f4_ := f1_.symm; have f5_ := f3_.symm; clear f1_ f2_ f3_; subst f4_; subst f5_))
                refine hK.out _ _ ⟨(blk_cell BK219.out 0).trans rfl, (blk_cell BK219.out 1).trans rfl, (blk_cell BK200.out 0).trans rfl, (blk_cell BK200.out 1).trans rfl⟩ (fun hHeld => ?_)
                clear hK K
                refine norm_ (a' := ?_) ?_ ?_
                rotate_left
                · show Act.put _ (some 54) _ = _
                  simp only [Act.put, List.setIfInBounds_toArray, List.set_cons_zero, List.set_cons_succ, i64_w, i32_w]
                  rfl
                refine one_ (i := 3) (N := some 55) #[true, true, true, true, false] rfl rfl (by kernel_rfl) (by decide) (fun K hK => ?_)
                refine goes_ Try.func11 (by kernel_rfl) rfl #[.agg #[.slice Ao33 t215.length co33, .bool t218], .agg #[.slice Ao197 t230.length co197, .bool t233]] (by rfl) rfl rfl (by (try simp only [List.map_toArray, List.map_cons, List.map_nil]); first | done | rfl | (simp only [List.length_drop, List.length_take]; rfl)) ?_
                with_reducible refine (laws_eqGraph.calls kj15 _ _ t215 t218 _ _ t230 t233 true _ ?side1 ?side2 ?side3 ?side4 A67.out).mono ?_
                (case side1 => repeat (first | exact (Kd.R_reads' HO_220000.out).2.2 | (with_reducible refine Kd.C_alloc ?_ _) | (with_reducible refine Kd.C_drewN ?_ _) | (with_reducible refine Kd.C_drew ?_)))
                (case side2 => exact (Kd.R_reads' HO_220000.out).2.1)
                (case side3 => repeat (first | exact (Kd.R_reads' HO232.out).2.2 | (with_reducible refine Kd.C_alloc ?_ _) | (with_reducible refine Kd.C_drewN ?_ _) | (with_reducible refine Kd.C_drew ?_)))
                (case side4 => exact (Kd.R_reads' HO232.out).2.1)
                rintro e w198 ⟨rfl, hb⟩
                refine ⟨_, rfl, ?_⟩
                have n0_ := Aside0.mk (Kd.R_below (by (with_reducible repeat (first | apply Kd.R_alloc | apply Kd.R_drewN | apply Kd.R_drew)); exact HO_9.out) hb)
                have n1_ := Aside0.mk (Kd.R_below (by (with_reducible repeat (first | apply Kd.R_alloc | apply Kd.R_drewN | apply Kd.R_drew)); exact HO_215000.out) hb)
                have n2_ := Aside0.mk (Kd.R_below (by (with_reducible repeat (first | apply Kd.R_alloc | apply Kd.R_drewN | apply Kd.R_drew)); exact HO_220000.out) hb)
                have n3_ := Aside0.mk (Kd.R_below (by (with_reducible repeat (first | apply Kd.R_alloc | apply Kd.R_drewN | apply Kd.R_drew)); exact HO_229000.out) hb)
                have n4_ := Aside0.mk (Kd.R_below (by (with_reducible repeat (first | apply Kd.R_alloc | apply Kd.R_drewN | apply Kd.R_drew)); exact HO232.out) hb)
                have n5_ := Aside0.mk (blk_below (g := gb200) (o := .cells #[.slice A0_0 l0_0.length c0_0, .bool a0_1] 24 (0, 0)) (by (with_reducible repeat (first | refine blk_drewN ?_ _ | refine blk_drew ?_ | refine blk_alloc ?_ _)); exact BK200.out) hb)
                have n6_ := Aside0.mk (blk_below (g := gb214) (o := .cells #[.slice Ao27 t209.length co27, .bool t212] 26 (0, 0)) (by (with_reducible repeat (first | refine blk_drewN ?_ _ | refine blk_drew ?_ | refine blk_alloc ?_ _)); exact BK214.out) hb)
                have n7_ := Aside0.mk (blk_below (g := gb219) (o := .cells #[.slice Ao33 t215.length co33, .bool t218] 26 (0, 0)) (by (with_reducible repeat (first | refine blk_drewN ?_ _ | refine blk_drew ?_ | refine blk_alloc ?_ _)); exact BK219.out) hb)
                have n8_ := Aside0.mk (blk_below (g := gb228) (o := .cells #[.slice Ao42 t223.length co42, .bool t226] 26 (0, 0)) (by (with_reducible repeat (first | refine blk_drewN ?_ _ | refine blk_drew ?_ | refine blk_alloc ?_ _)); exact BK228.out) hb)
                have n9_ := Aside0.mk (below_step (by repeat (first | (with_reducible first | exact HB.out | apply below_alloc | apply pw_below_drewN | apply below_drew1 | refine below_set ?_ GE200.out | refine below_set ?_ GE214.out | refine below_set ?_ GE219.out | refine below_set ?_ GE228.out) | exact HB.out)) hb)
                clear HO_9
                clear HO_215000
                clear HO_220000
                clear HO_229000
                clear HO232
                clear BK200
                clear BK214
                clear BK219
                clear BK228
                clear HB
                have HO_9 := n0_
                have HO_215000 := n1_
                have HO_220000 := n2_
                have HO_229000 := n3_
                have HO232 := n4_
                have BK200 := n5_
                have BK214 := n6_
                have BK219 := n7_
                have BK228 := n8_
                have HB := n9_
                clear n0_ n1_ n2_ n3_ n4_ n5_ n6_ n7_ n8_ n9_
                (try clear hb)
                (try clear hb2)
                (try clear hk)
                (try clear hi)
                refine hK.out _ _ ⟨(blk_cell BK219.out 0).trans rfl, (blk_cell BK219.out 1).trans rfl, (blk_cell BK200.out 0).trans rfl, (blk_cell BK200.out 1).trans rfl⟩ (fun hHeld => ?_)
                clear hK K
                refine norm_ (a' := ?_) ?_ ?_
                rotate_left
                · show Act.put _ (some 55) _ = _
                  simp only [Act.put, List.setIfInBounds_toArray, List.set_cons_zero, List.set_cons_succ, i64_w, i32_w]
                  rfl
                refine pure_ (i := 4) (N := some 56) (v := ?_) (a' := ?_) #[true, true, true, true, true] rfl rfl (by kernel_rfl) (fun _ _ _ h => h) (Or.inl ⟨by rfl, ?_⟩) ?_ ?_
                rotate_left
                · intro w'
                  go_simp
                  with_reducible rfl
                rotate_left
                · simp only [Act.put, List.setIfInBounds_toArray, List.set_cons_zero, List.set_cons_succ, i64_w, i32_w]
                  rfl
                refine done_ (by kernel_rfl) ?_
                try go_wp2_with (first | ((with_reducible refine gate_callee (f := 24) rfl ?_); refine goesL_ (some 59) rfl rfl Try.func24 (by kernel_rfl) rfl #[.slice A1 l1.length c1] rfl (by (try simp only [List.map_toArray, List.map_cons, List.map_nil]); first | done | rfl | (simp only [List.length_drop, List.length_take]; rfl)) ?_; (with_reducible refine (laws_toIntS.calls kj15 _ _ l1 t235 _ ?side1 ?side2 A69.out).mono ?_); (case side1 => repeat (first | exact (Kd.C_below HR1.out HB.out) | (with_reducible refine Kd.C_alloc ?_ _) | (with_reducible refine Kd.C_drewN ?_ _) | (with_reducible refine Kd.C_drew ?_))); (case side2 => exact HC1.out); rintro e w199 ⟨v236, rfl, ho0, hb⟩; refine ⟨_, rfl, ?_⟩; have n0_ := Aside0.mk (Kd.R_elder' (by (with_reducible repeat (first | apply Kd.R_alloc | apply Kd.R_drewN | apply Kd.R_drew)); exact HO_9.out) (Kd.R_base ho0) hb); have n1_ := Aside0.mk (Kd.R_elder' (by (with_reducible repeat (first | apply Kd.R_alloc | apply Kd.R_drewN | apply Kd.R_drew)); exact HO_215000.out) (Kd.R_base ho0) hb); have n2_ := Aside0.mk (Kd.R_elder' (by (with_reducible repeat (first | apply Kd.R_alloc | apply Kd.R_drewN | apply Kd.R_drew)); exact HO_220000.out) (Kd.R_base ho0) hb); have n3_ := Aside0.mk (Kd.R_elder' (by (with_reducible repeat (first | apply Kd.R_alloc | apply Kd.R_drewN | apply Kd.R_drew)); exact HO_229000.out) (Kd.R_base ho0) hb); have n4_ := Aside0.mk (Kd.R_elder' (by (with_reducible repeat (first | apply Kd.R_alloc | apply Kd.R_drewN | apply Kd.R_drew)); exact HO232.out) (Kd.R_base ho0) hb); have n5_ := Aside0.mk (Kd.R_lower (Kd.R_new' (Kd.R_new' (Kd.R_new' (Kd.R_new' (Kd.R_new' ho0 (Kd.R_lt (by (with_reducible repeat (first | apply Kd.R_alloc | apply Kd.R_drewN | apply Kd.R_drew)); exact HO_9.out))) (Kd.R_lt (by (with_reducible repeat (first | apply Kd.R_alloc | apply Kd.R_drewN | apply Kd.R_drew)); exact HO_215000.out))) (Kd.R_lt (by (with_reducible repeat (first | apply Kd.R_alloc | apply Kd.R_drewN | apply Kd.R_drew)); exact HO_220000.out))) (Kd.R_lt (by (with_reducible repeat (first | apply Kd.R_alloc | apply Kd.R_drewN | apply Kd.R_drew)); exact HO_229000.out))) (Kd.R_lt (by (with_reducible repeat (first | apply Kd.R_alloc | apply Kd.R_drewN | apply Kd.R_drew)); exact HO232.out))) (below_size (by repeat (first | (with_reducible first | exact HB.out | apply below_alloc | apply pw_below_drewN | apply below_drew1 | refine below_set ?_ GE200.out | refine below_set ?_ GE214.out | refine below_set ?_ GE219.out | refine below_set ?_ GE228.out) | exact HB.out)))); have n6_ := Aside0.mk (blk_below (g := gb200) (o := .cells #[.slice A0_0 l0_0.length c0_0, .bool a0_1] 24 (0, 0)) (by (with_reducible repeat (first | refine blk_drewN ?_ _ | refine blk_drew ?_ | refine blk_alloc ?_ _)); exact BK200.out) hb); have n7_ := Aside0.mk (blk_below (g := gb214) (o := .cells #[.slice Ao27 t209.length co27, .bool t212] 26 (0, 0)) (by (with_reducible repeat (first | refine blk_drewN ?_ _ | refine blk_drew ?_ | refine blk_alloc ?_ _)); exact BK214.out) hb); have n8_ := Aside0.mk (blk_below (g := gb219) (o := .cells #[.slice Ao33 t215.length co33, .bool t218] 26 (0, 0)) (by (with_reducible repeat (first | refine blk_drewN ?_ _ | refine blk_drew ?_ | refine blk_alloc ?_ _)); exact BK219.out) hb); have n9_ := Aside0.mk (blk_below (g := gb228) (o := .cells #[.slice Ao42 t223.length co42, .bool t226] 26 (0, 0)) (by (with_reducible repeat (first | refine blk_drewN ?_ _ | refine blk_drew ?_ | refine blk_alloc ?_ _)); exact BK228.out) hb); have n10_ := Aside0.mk (below_step (by repeat (first | (with_reducible first | exact HB.out | apply below_alloc | apply pw_below_drewN | apply below_drew1 | refine below_set ?_ GE200.out | refine below_set ?_ GE214.out | refine below_set ?_ GE219.out | refine below_set ?_ GE228.out) | exact HB.out)) hb); clear HO_9; clear HO_215000; clear HO_220000; clear HO_229000; clear HO232; clear BK200; clear BK214; clear BK219; clear BK228; clear HB; have HO_9 := n0_; have HO_215000 := n1_; have HO_220000 := n2_; have HO_229000 := n3_; have HO232 := n4_; have HO237 := n5_; have BK200 := n6_; have BK214 := n7_; have BK219 := n8_; have BK228 := n9_; have HB := n10_; clear n0_ n1_ n2_ n3_ n4_ n5_ n6_ n7_ n8_ n9_ n10_; (try clear hb); (try clear hb2); (try clear hk); (try clear hi); (try clear ho0); obtain ⟨Ao200, co200, eo200⟩ := Kd.R_slice HO237.out; subst eo200) | ((with_reducible refine gate_callee (f := 26) rfl ?_); refine goesL_ (some 60) rfl rfl Try.func26 (by kernel_rfl) rfl #[.slice Ao39 t220.length co39, .slice Ao200 t235.length co200] rfl (by (try simp only [List.map_toArray, List.map_cons, List.map_nil]); first | done | rfl | (simp only [List.length_drop, List.length_take]; rfl)) ?_; (with_reducible refine (laws_eqIntS.calls kj15 _ _ t220 _ _ t235 false _ ?side1 ?side2 ?side3 ?side4 A70.out).mono ?_); (case side1 => repeat (first | exact (Kd.R_reads' HO_9.out).2.2 | (with_reducible refine Kd.C_alloc ?_ _) | (with_reducible refine Kd.C_drewN ?_ _) | (with_reducible refine Kd.C_drew ?_))); (case side2 => exact (Kd.R_reads' HO_9.out).2.1); (case side3 => repeat (first | exact (Kd.R_reads' HO237.out).2.2 | (with_reducible refine Kd.C_alloc ?_ _) | (with_reducible refine Kd.C_drewN ?_ _) | (with_reducible refine Kd.C_drew ?_))); (case side4 => exact (Kd.R_reads' HO237.out).2.1); rintro e w' ⟨rfl, ⟨nd, rfl⟩⟩; refine ⟨_, rfl, ?_⟩))
                go_ret
                exact ⟨by first | rfl | (simp [errW_none, errW_some] <;> rfl) | (simp [*, errW_none, errW_some] <;> rfl), by repeat (first | (with_reducible first | exact HB.out | apply below_alloc | apply pw_below_drewN | apply below_drew1 | refine below_set ?_ GE200.out | refine below_set ?_ GE214.out | refine below_set ?_ GE219.out | refine below_set ?_ GE228.out) | exact HB.out)⟩
            · replace c68 := Bool.eq_false_iff.mpr c68
              subst c68
              have H1 : (some false) = some r := by rw [if_neg (show ¬ (false = true) by decide)] at H; exact H
              clear H
              have H := H1
              clear H1
              obtain rfl := Option.some.inj H
              try go_wp2
              have n0_ := Aside0.mk (Kd.R_drew HO_9.out)
              have n1_ := Aside0.mk (Kd.R_drew HO_215000.out)
              have n2_ := Aside0.mk (Kd.R_drew HO_220000.out)
              have n3_ := Aside0.mk (Kd.R_drew HO_229000.out)
              have n4_ := Aside0.mk (blk_drew BK200.out)
              have n5_ := Aside0.mk (blk_drew BK214.out)
              have n6_ := Aside0.mk (blk_drew BK219.out)
              have n7_ := Aside0.mk (blk_drew BK228.out)
              have n8_ := Aside0.mk (below_drew1 HB.out)
              clear HO_9
              clear HO_215000
              clear HO_220000
              clear HO_229000
              clear BK200
              clear BK214
              clear BK219
              clear BK228
              clear HB
              have HO_9 := n0_
              have HO_215000 := n1_
              have HO_220000 := n2_
              have HO_229000 := n3_
              have BK200 := n4_
              have BK214 := n5_
              have BK219 := n6_
              have BK228 := n7_
              have HB := n8_
              clear n0_ n1_ n2_ n3_ n4_ n5_ n6_ n7_ n8_
              refine start_ (n := 5) (S := fun w' => w'.cell? ⟨gb219, 0, none⟩ = some (.slice Ao33 t215.length co33) ∧ w'.cell? ⟨gb219, 1, none⟩ = some (.bool t218) ∧ w'.cell? ⟨gb200, 0, none⟩ = some (.slice A0_0 l0_0.length c0_0) ∧ w'.cell? ⟨gb200, 1, none⟩ = some (.bool a0_1)) (ds := []) #[false, false, false, false, false] (by kernel_rfl) rfl rfl ⟨(blk_cell BK219.out 0).trans rfl, (blk_cell BK219.out 1).trans rfl, (blk_cell BK200.out 0).trans rfl, (blk_cell BK200.out 1).trans rfl⟩ (fun hHeld => ?_)
              generalize wc.drew = w201 at HO_9 HO_215000 HO_220000 HO_229000 BK200 BK214 BK219 BK228 HB hHeld ⊢
              refine take_ (i := 0) (N := some 52) (v := ?_) (a' := ?_) #[true, false, false, false, false] rfl rfl (by kernel_rfl) (fun _ _ _ h => h) (Or.inl ⟨by rfl, ?_⟩) hHeld ?_ ?_
              rotate_left
              · rintro w' ⟨s0, s1, s2, s3⟩
                go_simp
                with_reducible rfl
              rotate_left
              · simp only [Act.put, List.setIfInBounds_toArray, List.set_cons_zero, List.set_cons_succ, i64_w, i32_w]
                rfl
              refine take_ (i := 1) (N := some 53) (v := ?_) (a' := ?_) #[true, true, false, false, false] rfl rfl (by kernel_rfl) (fun _ _ _ h => h) (Or.inl ⟨by rfl, ?_⟩) hHeld ?_ ?_
              rotate_left
              · rintro w' ⟨s0, s1, s2, s3⟩
                go_simp
                with_reducible rfl
              rotate_left
              · simp only [Act.put, List.setIfInBounds_toArray, List.set_cons_zero, List.set_cons_succ, i64_w, i32_w]
                rfl
              refine one_ (i := 2) (N := some 54) #[true, true, true, false, false] rfl rfl (by kernel_rfl) (by decide) (fun K hK => ?_)
              refine goes_ Try.func9 (by kernel_rfl) rfl #[.agg #[.slice A0_0 l0_0.length c0_0, .bool a0_1]] (by rfl) rfl rfl (by (try simp only [List.map_toArray, List.map_cons, List.map_nil]); first | done | rfl | (simp only [List.length_drop, List.length_take]; rfl)) ?_
              with_reducible refine (laws_toGraph.calls kj15 _ _ l0_0 a0_1 t230 t233 _ ?side1 ?side2 A66.out).mono ?_
              (case side1 => repeat (first | exact (Kd.C_below HR0_0.out HB.out) | (with_reducible refine Kd.C_alloc ?_ _) | (with_reducible refine Kd.C_drewN ?_ _) | (with_reducible refine Kd.C_drew ?_)))
              (case side2 => exact HC0_0.out)
              rintro e w202 ⟨v231, rfl, ho0, hb⟩
              refine ⟨_, rfl, ?_⟩
              have n0_ := Aside0.mk (Kd.R_elder' (by (with_reducible repeat (first | apply Kd.R_alloc | apply Kd.R_drewN | apply Kd.R_drew)); exact HO_9.out) (Kd.R_base ho0) hb)
              have n1_ := Aside0.mk (Kd.R_elder' (by (with_reducible repeat (first | apply Kd.R_alloc | apply Kd.R_drewN | apply Kd.R_drew)); exact HO_215000.out) (Kd.R_base ho0) hb)
              have n2_ := Aside0.mk (Kd.R_elder' (by (with_reducible repeat (first | apply Kd.R_alloc | apply Kd.R_drewN | apply Kd.R_drew)); exact HO_220000.out) (Kd.R_base ho0) hb)
              have n3_ := Aside0.mk (Kd.R_elder' (by (with_reducible repeat (first | apply Kd.R_alloc | apply Kd.R_drewN | apply Kd.R_drew)); exact HO_229000.out) (Kd.R_base ho0) hb)
              have n4_ := Aside0.mk (Kd.R_lower (Kd.R_new' (Kd.R_new' (Kd.R_new' (Kd.R_new' ho0 (Kd.R_lt (by (with_reducible repeat (first | apply Kd.R_alloc | apply Kd.R_drewN | apply Kd.R_drew)); exact HO_9.out))) (Kd.R_lt (by (with_reducible repeat (first | apply Kd.R_alloc | apply Kd.R_drewN | apply Kd.R_drew)); exact HO_215000.out))) (Kd.R_lt (by (with_reducible repeat (first | apply Kd.R_alloc | apply Kd.R_drewN | apply Kd.R_drew)); exact HO_220000.out))) (Kd.R_lt (by (with_reducible repeat (first | apply Kd.R_alloc | apply Kd.R_drewN | apply Kd.R_drew)); exact HO_229000.out))) (below_size (by repeat (first | (with_reducible first | exact HB.out | apply below_alloc | apply pw_below_drewN | apply below_drew1 | refine below_set ?_ GE200.out | refine below_set ?_ GE214.out | refine below_set ?_ GE219.out | refine below_set ?_ GE228.out) | exact HB.out))))
              have n5_ := Aside0.mk (blk_below (g := gb200) (o := .cells #[.slice A0_0 l0_0.length c0_0, .bool a0_1] 24 (0, 0)) (by (with_reducible repeat (first | refine blk_drewN ?_ _ | refine blk_drew ?_ | refine blk_alloc ?_ _)); exact BK200.out) hb)
              have n6_ := Aside0.mk (blk_below (g := gb214) (o := .cells #[.slice Ao27 t209.length co27, .bool t212] 26 (0, 0)) (by (with_reducible repeat (first | refine blk_drewN ?_ _ | refine blk_drew ?_ | refine blk_alloc ?_ _)); exact BK214.out) hb)
              have n7_ := Aside0.mk (blk_below (g := gb219) (o := .cells #[.slice Ao33 t215.length co33, .bool t218] 26 (0, 0)) (by (with_reducible repeat (first | refine blk_drewN ?_ _ | refine blk_drew ?_ | refine blk_alloc ?_ _)); exact BK219.out) hb)
              have n8_ := Aside0.mk (blk_below (g := gb228) (o := .cells #[.slice Ao42 t223.length co42, .bool t226] 26 (0, 0)) (by (with_reducible repeat (first | refine blk_drewN ?_ _ | refine blk_drew ?_ | refine blk_alloc ?_ _)); exact BK228.out) hb)
              have n9_ := Aside0.mk (below_step (by repeat (first | (with_reducible first | exact HB.out | apply below_alloc | apply pw_below_drewN | apply below_drew1 | refine below_set ?_ GE200.out | refine below_set ?_ GE214.out | refine below_set ?_ GE219.out | refine below_set ?_ GE228.out) | exact HB.out)) hb)
              clear HO_9
              clear HO_215000
              clear HO_220000
              clear HO_229000
              clear BK200
              clear BK214
              clear BK219
              clear BK228
              clear HB
              have HO_9 := n0_
              have HO_215000 := n1_
              have HO_220000 := n2_
              have HO_229000 := n3_
              have HO232 := n4_
              have BK200 := n5_
              have BK214 := n6_
              have BK219 := n7_
              have BK228 := n8_
              have HB := n9_
              clear n0_ n1_ n2_ n3_ n4_ n5_ n6_ n7_ n8_ n9_
              (try clear hb)
              (try clear hb2)
              (try clear hk)
              (try clear hi)
              (try clear ho0)
              obtain ⟨Ao203, co203, eo203⟩ := Kd.R_slice HO232.out
              (first | subst eo203 | (injection eo203 with f1_ f2_ f3_; have f4_ := f1_.symm; have f5_ := f3_.symm; clear f1_ f2_ f3_; subst f4_; subst f5_))
              refine hK.out _ _ ⟨(blk_cell BK219.out 0).trans rfl, (blk_cell BK219.out 1).trans rfl, (blk_cell BK200.out 0).trans rfl, (blk_cell BK200.out 1).trans rfl⟩ (fun hHeld => ?_)
              clear hK K
              refine norm_ (a' := ?_) ?_ ?_
              rotate_left
              · show Act.put _ (some 54) _ = _
                simp only [Act.put, List.setIfInBounds_toArray, List.set_cons_zero, List.set_cons_succ, i64_w, i32_w]
                rfl
              refine one_ (i := 3) (N := some 55) #[true, true, true, true, false] rfl rfl (by kernel_rfl) (by decide) (fun K hK => ?_)
              refine goes_ Try.func11 (by kernel_rfl) rfl #[.agg #[.slice Ao33 t215.length co33, .bool t218], .agg #[.slice Ao203 t230.length co203, .bool t233]] (by rfl) rfl rfl (by (try simp only [List.map_toArray, List.map_cons, List.map_nil]); first | done | rfl | (simp only [List.length_drop, List.length_take]; rfl)) ?_
              with_reducible refine (laws_eqGraph.calls kj15 _ _ t215 t218 _ _ t230 t233 false _ ?side1 ?side2 ?side3 ?side4 A67.out).mono ?_
              (case side1 => repeat (first | exact (Kd.R_reads' HO_220000.out).2.2 | (with_reducible refine Kd.C_alloc ?_ _) | (with_reducible refine Kd.C_drewN ?_ _) | (with_reducible refine Kd.C_drew ?_)))
              (case side2 => exact (Kd.R_reads' HO_220000.out).2.1)
              (case side3 => repeat (first | exact (Kd.R_reads' HO232.out).2.2 | (with_reducible refine Kd.C_alloc ?_ _) | (with_reducible refine Kd.C_drewN ?_ _) | (with_reducible refine Kd.C_drew ?_)))
              (case side4 => exact (Kd.R_reads' HO232.out).2.1)
              rintro e w204 ⟨rfl, hb⟩
              refine ⟨_, rfl, ?_⟩
              have n0_ := Aside0.mk (Kd.R_below (by (with_reducible repeat (first | apply Kd.R_alloc | apply Kd.R_drewN | apply Kd.R_drew)); exact HO_9.out) hb)
              have n1_ := Aside0.mk (Kd.R_below (by (with_reducible repeat (first | apply Kd.R_alloc | apply Kd.R_drewN | apply Kd.R_drew)); exact HO_215000.out) hb)
              have n2_ := Aside0.mk (Kd.R_below (by (with_reducible repeat (first | apply Kd.R_alloc | apply Kd.R_drewN | apply Kd.R_drew)); exact HO_220000.out) hb)
              have n3_ := Aside0.mk (Kd.R_below (by (with_reducible repeat (first | apply Kd.R_alloc | apply Kd.R_drewN | apply Kd.R_drew)); exact HO_229000.out) hb)
              have n4_ := Aside0.mk (Kd.R_below (by (with_reducible repeat (first | apply Kd.R_alloc | apply Kd.R_drewN | apply Kd.R_drew)); exact HO232.out) hb)
              have n5_ := Aside0.mk (blk_below (g := gb200) (o := .cells #[.slice A0_0 l0_0.length c0_0, .bool a0_1] 24 (0, 0)) (by (with_reducible repeat (first | refine blk_drewN ?_ _ | refine blk_drew ?_ | refine blk_alloc ?_ _)); exact BK200.out) hb)
              have n6_ := Aside0.mk (blk_below (g := gb214) (o := .cells #[.slice Ao27 t209.length co27, .bool t212] 26 (0, 0)) (by (with_reducible repeat (first | refine blk_drewN ?_ _ | refine blk_drew ?_ | refine blk_alloc ?_ _)); exact BK214.out) hb)
              have n7_ := Aside0.mk (blk_below (g := gb219) (o := .cells #[.slice Ao33 t215.length co33, .bool t218] 26 (0, 0)) (by (with_reducible repeat (first | refine blk_drewN ?_ _ | refine blk_drew ?_ | refine blk_alloc ?_ _)); exact BK219.out) hb)
              have n8_ := Aside0.mk (blk_below (g := gb228) (o := .cells #[.slice Ao42 t223.length co42, .bool t226] 26 (0, 0)) (by (with_reducible repeat (first | refine blk_drewN ?_ _ | refine blk_drew ?_ | refine blk_alloc ?_ _)); exact BK228.out) hb)
              have n9_ := Aside0.mk (below_step (by repeat (first | (with_reducible first | exact HB.out | apply below_alloc | apply pw_below_drewN | apply below_drew1 | refine below_set ?_ GE200.out | refine below_set ?_ GE214.out | refine below_set ?_ GE219.out | refine below_set ?_ GE228.out) | exact HB.out)) hb)
              clear HO_9
              clear HO_215000
              clear HO_220000
              clear HO_229000
              clear HO232
              clear BK200
              clear BK214
              clear BK219
              clear BK228
              clear HB
              have HO_9 := n0_
              have HO_215000 := n1_
              have HO_220000 := n2_
              have HO_229000 := n3_
              have HO232 := n4_
              have BK200 := n5_
              have BK214 := n6_
              have BK219 := n7_
              have BK228 := n8_
              have HB := n9_
              clear n0_ n1_ n2_ n3_ n4_ n5_ n6_ n7_ n8_ n9_
              (try clear hb)
              (try clear hb2)
              (try clear hk)
              (try clear hi)
              refine hK.out _ _ ⟨(blk_cell BK219.out 0).trans rfl, (blk_cell BK219.out 1).trans rfl, (blk_cell BK200.out 0).trans rfl, (blk_cell BK200.out 1).trans rfl⟩ (fun hHeld => ?_)
              clear hK K
              refine norm_ (a' := ?_) ?_ ?_
              rotate_left
              · show Act.put _ (some 55) _ = _
                simp only [Act.put, List.setIfInBounds_toArray, List.set_cons_zero, List.set_cons_succ, i64_w, i32_w]
                rfl
              refine pure_ (i := 4) (N := some 56) (v := ?_) (a' := ?_) #[true, true, true, true, true] rfl rfl (by kernel_rfl) (fun _ _ _ h => h) (Or.inl ⟨by rfl, ?_⟩) ?_ ?_
              rotate_left
              · intro w'
                go_simp
                with_reducible rfl
              rotate_left
              · simp only [Act.put, List.setIfInBounds_toArray, List.set_cons_zero, List.set_cons_succ, i64_w, i32_w]
                rfl
              refine done_ (by kernel_rfl) ?_
              try go_wp2
              go_ret
              exact ⟨by first | rfl | (simp [errW_none, errW_some] <;> rfl) | (simp [*, errW_none, errW_some] <;> rfl), by repeat (first | (with_reducible first | exact HB.out | apply below_alloc | apply pw_below_drewN | apply below_drew1 | refine below_set ?_ GE200.out | refine below_set ?_ GE214.out | refine below_set ?_ GE219.out | refine below_set ?_ GE228.out) | exact HB.out)⟩

end Go.Proofs.Yteabfdcobkgmmaa.PFnExactRenameGraph
