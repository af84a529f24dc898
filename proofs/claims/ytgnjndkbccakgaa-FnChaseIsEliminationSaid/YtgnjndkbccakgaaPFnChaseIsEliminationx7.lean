-- WRITTEN BY xprint.py, a program of this session, which runs the kit's print over functions with given contracts
import Derived.Test.YtgnjndkbccakgaaPFnChaseIsEliminationx0
import Derived.Test.YtgnjndkbccakgaaPFnChaseIsEliminationx1
import Derived.Test.YtgnjndkbccakgaaPFnChaseIsEliminationx2
import Derived.Test.YtgnjndkbccakgaaPFnChaseIsEliminationx3
import Derived.Test.YtgnjndkbccakgaaPFnChaseIsEliminationx4
import Derived.Test.YtgnjndkbccakgaaPFnChaseIsEliminationx5
import Derived.Test.YtgnjndkbccakgaaPFnChaseIsEliminationx6
namespace Go.Proofs.Ytgnjndkbccakgaa.PFnChaseIsElimination
open Go.RowKit Go.Proofs.YtgnjndkbccakgaaW.PrintWords Go.Proofs.YtgnjndkbccakgaaW.PrintLast Go.Proofs.YtgnjndkbccakgaaW.PrintMore
attribute [local go_sem] max2_int min2_int max_two min_two max_three min_three max_four min_four   -- for this text's walks alone
set_option linter.unusedVariables false
set_option linter.unusedSimpArgs false

/-! ### laws_FnChaseIsElimination: function 4 -/
mutual
def laws_FnChaseIsElimination.j0 : Nat → List Int → Int → Int → Bool → Int → Int → Int → Bool → Int → Bool → Option (Bool)
  | 0, _, _, _, _, _, _, _, _, _, _ => none
  | k + 1, x1, x5, x6, x7, x8, x9, x10, x11, x14, x111 => if x111 = true then (some false) else (if x11 = true then ((impl_GridGraph.f k x5 x6 x7).bind fun bt289 => ((impl_PressAll.f k bt289.1 bt289.2.1 x8 x10).bind fun bt295 => (if bt289.2.2 = true then (if bt295.2 = true then (if 0 ≤ (wrap64 (x6 * (wrap64 (x5 - 1)))) then (if bt295.1 = (shl .i64 x14 (wrap64 (x6 * (wrap64 (x5 - 1))))) then (if 0 ≤ x6 then (if (Go.bits .and .i64 x10 (wrap64 ((shl .i64 1 x6) - 1))) = x9 then (laws_FnChaseIsElimination.j1 k x1) else (some false)) else (none)) else (some false)) else (none)) else (some false)) else (some false)))) else (laws_FnChaseIsElimination.j1 k x1))
def laws_FnChaseIsElimination.j1 : Nat → List Int → Option (Bool)
  | 0, _ => none
  | k + 1, x1 => (spec_DrawSolveByChase.f x1).bind fun bt297 => ((impl_SolveByChase.f k bt297.1 bt297.2.1 bt297.2.2.1 bt297.2.2.2).bind fun bt301 => ((spec_SolveByChase.f k bt297.1 bt297.2.1 bt297.2.2.1 bt297.2.2.2).bind fun bt303 => ((impl_FirstRows.f k bt297.1 bt297.2.1 bt297.2.2.1 bt297.2.2.2).bind fun bt305 => ((spec_FirstRows.f k bt297.1 bt297.2.1 bt297.2.2.1 bt297.2.2.2).bind fun bt309 => (if (bt301.2 != bt303.2) = true then (laws_FnChaseIsElimination.j2 k bt297.1 bt297.2.1 bt297.2.2.1 bt297.2.2.2 bt301.1 bt301.2 bt305.1 bt305.2 true) else (if bt301.1 = bt303.1 then (if (bt305.2 != bt309.2) = true then (laws_FnChaseIsElimination.j2 k bt297.1 bt297.2.1 bt297.2.2.1 bt297.2.2.2 bt301.1 bt301.2 bt305.1 bt305.2 true) else ((laws_hSame.f k bt305.1 bt309.1).bind fun t313 => (if t313 = true then (laws_FnChaseIsElimination.j2 k bt297.1 bt297.2.1 bt297.2.2.1 bt297.2.2.2 bt301.1 bt301.2 bt305.1 bt305.2 (bt301.2 != (decide ((bt305.1.length : Int) > 0)))) else (laws_FnChaseIsElimination.j2 k bt297.1 bt297.2.1 bt297.2.2.1 bt297.2.2.2 bt301.1 bt301.2 bt305.1 bt305.2 true)))) else (laws_FnChaseIsElimination.j2 k bt297.1 bt297.2.1 bt297.2.2.1 bt297.2.2.2 bt301.1 bt301.2 bt305.1 bt305.2 true)))))))
def laws_FnChaseIsElimination.j2 : Nat → Int → Int → Bool → Int → Int → Bool → List Int → Bool → Bool → Option (Bool)
  | 0, _, _, _, _, _, _, _, _, _ => none
  | k + 1, x22, x23, x24, x25, x26, x27, x30, x31, x216 => if x216 = true then (some false) else (if x31 = true then ((impl_GridGraph.f k x22 x23 x24).bind fun bt314 => ((impl_CanSolve.f bt314.1 bt314.2.1 x25).bind fun bt320 => ((impl_CountSolutions.f bt314.1 bt314.2.1 x25).bind fun bt322 => (if bt314.2.2 = true then (if bt320.2 = true then (if (bt320.1 != x27) = true then (laws_FnChaseIsElimination.j3 k x25 x26 x27 true bt314.1 bt314.2.1) else (if bt322.2 = true then (laws_FnChaseIsElimination.j3 k x25 x26 x27 (bt322.1 != (x30.length : Int)) bt314.1 bt314.2.1) else (laws_FnChaseIsElimination.j3 k x25 x26 x27 true bt314.1 bt314.2.1))) else (laws_FnChaseIsElimination.j3 k x25 x26 x27 true bt314.1 bt314.2.1)) else (laws_FnChaseIsElimination.j3 k x25 x26 x27 true bt314.1 bt314.2.1))))) else (some true))
def laws_FnChaseIsElimination.j3 : Nat → Int → Int → Bool → Bool → List Int → Bool → Option (Bool)
  | 0, _, _, _, _, _, _ => none
  | k + 1, x25, x26, x27, x257, x320000, x320001 => if x257 = true then (some false) else (if x27 = true then ((impl_PressAll.f k x320000 x320001 x25 x26).bind fun bt324 => (if bt324.2 = true then (some (bt324.1 == 0)) else (some false))) else (some true))
end
def laws_FnChaseIsElimination.f (k : Nat) (l0 : List Int) (l1 : List Int) : Option (Bool) := (laws_big.f l0 l1).bind fun t275 => (if t275 = true then (some true) else ((spec_DrawChasePresses.f l0).bind fun bt276 => ((impl_ChasePresses.f k bt276.1 bt276.2.1 bt276.2.2.1 bt276.2.2.2.1 bt276.2.2.2.2).bind fun bt281 => ((spec_ChasePresses.f k bt276.1 bt276.2.1 bt276.2.2.1 bt276.2.2.2.1 bt276.2.2.2.2).bind fun bt283 => ((impl_ChaseLeft.f k bt276.1 bt276.2.1 bt276.2.2.1 bt276.2.2.2.1 bt276.2.2.2.2).bind fun bt285 => ((spec_ChaseLeft.f k bt276.1 bt276.2.1 bt276.2.2.1 bt276.2.2.2.1 bt276.2.2.2.2).bind fun bt287 => (if (bt281.2 != bt283.2) = true then (laws_FnChaseIsElimination.j0 k l1 bt276.1 bt276.2.1 bt276.2.2.1 bt276.2.2.2.1 bt276.2.2.2.2 bt281.1 bt281.2 bt285.1 true) else (if bt281.1 = bt283.1 then (if (bt285.2 != bt287.2) = true then (laws_FnChaseIsElimination.j0 k l1 bt276.1 bt276.2.1 bt276.2.2.1 bt276.2.2.2.1 bt276.2.2.2.2 bt281.1 bt281.2 bt285.1 true) else (if bt285.1 = bt287.1 then (laws_FnChaseIsElimination.j0 k l1 bt276.1 bt276.2.1 bt276.2.2.1 bt276.2.2.2.1 bt276.2.2.2.2 bt281.1 bt281.2 bt285.1 (bt285.2 != bt281.2)) else (laws_FnChaseIsElimination.j0 k l1 bt276.1 bt276.2.1 bt276.2.2.1 bt276.2.2.2.1 bt276.2.2.2.2 bt281.1 bt281.2 bt285.1 true))) else (laws_FnChaseIsElimination.j0 k l1 bt276.1 bt276.2.1 bt276.2.2.1 bt276.2.2.2.1 bt276.2.2.2.2 bt281.1 bt281.2 bt285.1 true)))))))))
theorem laws_FnChaseIsElimination.mono_l : ∀ k, (∀ y0 y1 y2 y3 y4 y5 y6 y7 y8 y9, LeO (laws_FnChaseIsElimination.j0 k y0 y1 y2 y3 y4 y5 y6 y7 y8 y9) (laws_FnChaseIsElimination.j0 (k + 1) y0 y1 y2 y3 y4 y5 y6 y7 y8 y9)) ∧ (∀ y0, LeO (laws_FnChaseIsElimination.j1 k y0) (laws_FnChaseIsElimination.j1 (k + 1) y0)) ∧ (∀ y0 y1 y2 y3 y4 y5 y6 y7 y8, LeO (laws_FnChaseIsElimination.j2 k y0 y1 y2 y3 y4 y5 y6 y7 y8) (laws_FnChaseIsElimination.j2 (k + 1) y0 y1 y2 y3 y4 y5 y6 y7 y8)) ∧ (∀ y0 y1 y2 y3 y4 y5, LeO (laws_FnChaseIsElimination.j3 k y0 y1 y2 y3 y4 y5) (laws_FnChaseIsElimination.j3 (k + 1) y0 y1 y2 y3 y4 y5))
  | 0 => ⟨fun _ _ _ _ _ _ _ _ _ _ r h => by simp [laws_FnChaseIsElimination.j0] at h, fun _ r h => by simp [laws_FnChaseIsElimination.j1] at h, fun _ _ _ _ _ _ _ _ _ r h => by simp [laws_FnChaseIsElimination.j2] at h, fun _ _ _ _ _ _ r h => by simp [laws_FnChaseIsElimination.j3] at h⟩
  | k + 1 => by
    obtain ⟨ih0, ih1, ih2, ih3⟩ := laws_FnChaseIsElimination.mono_l k
    refine ⟨?_, ?_, ?_, ?_⟩
    · intro y0 y1 y2 y3 y4 y5 y6 y7 y8 y9
      unfold laws_FnChaseIsElimination.j0
      repeat' first
      | (with_reducible exact ih0 _ _ _ _ _ _ _ _ _ _)
      | (with_reducible exact ih1 _)
      | (with_reducible exact ih2 _ _ _ _ _ _ _ _ _)
      | (with_reducible exact ih3 _ _ _ _ _ _)
      | (with_reducible exact impl_ChaseLeft.mono _ _ _ _ _ _)
      | (with_reducible exact impl_ChasePresses.mono _ _ _ _ _ _)
      | (with_reducible exact impl_FirstRows.mono _ _ _ _ _)
      | (with_reducible exact impl_GridGraph.mono _ _ _ _)
      | (with_reducible exact impl_PressAll.mono _ _ _ _ _)
      | (with_reducible exact impl_SolveByChase.mono _ _ _ _ _)
      | (with_reducible exact laws_hSame.mono _ _ _)
      | (with_reducible exact spec_ChaseLeft.mono _ _ _ _ _ _)
      | (with_reducible exact spec_ChasePresses.mono _ _ _ _ _ _)
      | (with_reducible exact spec_FirstRows.mono _ _ _ _ _)
      | (with_reducible exact spec_SolveByChase.mono _ _ _ _ _)
      | (with_reducible exact LeO.refl _)
      | (with_reducible exact LeO.none _)
      | (with_reducible refine LeO.ite ?_ ?_)
      | (with_reducible refine LeO.bind ?_ (fun _ => ?_))
      | exact ih0 _ _ _ _ _ _ _ _ _ _
      | exact ih1 _
      | exact ih2 _ _ _ _ _ _ _ _ _
      | exact ih3 _ _ _ _ _ _
      | exact impl_ChaseLeft.mono _ _ _ _ _ _
      | exact impl_ChasePresses.mono _ _ _ _ _ _
      | exact impl_FirstRows.mono _ _ _ _ _
      | exact impl_GridGraph.mono _ _ _ _
      | exact impl_PressAll.mono _ _ _ _ _
      | exact impl_SolveByChase.mono _ _ _ _ _
      | exact laws_hSame.mono _ _ _
      | exact spec_ChaseLeft.mono _ _ _ _ _ _
      | exact spec_ChasePresses.mono _ _ _ _ _ _
      | exact spec_FirstRows.mono _ _ _ _ _
      | exact spec_SolveByChase.mono _ _ _ _ _
      | exact LeO.none _
      | refine LeO.ite ?_ ?_
      | refine LeO.bind ?_ (fun _ => ?_)
    · intro y0
      unfold laws_FnChaseIsElimination.j1
      repeat' first
      | (with_reducible exact ih0 _ _ _ _ _ _ _ _ _ _)
      | (with_reducible exact ih1 _)
      | (with_reducible exact ih2 _ _ _ _ _ _ _ _ _)
      | (with_reducible exact ih3 _ _ _ _ _ _)
      | (with_reducible exact impl_ChaseLeft.mono _ _ _ _ _ _)
      | (with_reducible exact impl_ChasePresses.mono _ _ _ _ _ _)
      | (with_reducible exact impl_FirstRows.mono _ _ _ _ _)
      | (with_reducible exact impl_GridGraph.mono _ _ _ _)
      | (with_reducible exact impl_PressAll.mono _ _ _ _ _)
      | (with_reducible exact impl_SolveByChase.mono _ _ _ _ _)
      | (with_reducible exact laws_hSame.mono _ _ _)
      | (with_reducible exact spec_ChaseLeft.mono _ _ _ _ _ _)
      | (with_reducible exact spec_ChasePresses.mono _ _ _ _ _ _)
      | (with_reducible exact spec_FirstRows.mono _ _ _ _ _)
      | (with_reducible exact spec_SolveByChase.mono _ _ _ _ _)
      | (with_reducible exact LeO.refl _)
      | (with_reducible exact LeO.none _)
      | (with_reducible refine LeO.ite ?_ ?_)
      | (with_reducible refine LeO.bind ?_ (fun _ => ?_))
      | exact ih0 _ _ _ _ _ _ _ _ _ _
      | exact ih1 _
      | exact ih2 _ _ _ _ _ _ _ _ _
      | exact ih3 _ _ _ _ _ _
      | exact impl_ChaseLeft.mono _ _ _ _ _ _
      | exact impl_ChasePresses.mono _ _ _ _ _ _
      | exact impl_FirstRows.mono _ _ _ _ _
      | exact impl_GridGraph.mono _ _ _ _
      | exact impl_PressAll.mono _ _ _ _ _
      | exact impl_SolveByChase.mono _ _ _ _ _
      | exact laws_hSame.mono _ _ _
      | exact spec_ChaseLeft.mono _ _ _ _ _ _
      | exact spec_ChasePresses.mono _ _ _ _ _ _
      | exact spec_FirstRows.mono _ _ _ _ _
      | exact spec_SolveByChase.mono _ _ _ _ _
      | exact LeO.none _
      | refine LeO.ite ?_ ?_
      | refine LeO.bind ?_ (fun _ => ?_)
    · intro y0 y1 y2 y3 y4 y5 y6 y7 y8
      unfold laws_FnChaseIsElimination.j2
      repeat' first
      | (with_reducible exact ih0 _ _ _ _ _ _ _ _ _ _)
      | (with_reducible exact ih1 _)
      | (with_reducible exact ih2 _ _ _ _ _ _ _ _ _)
      | (with_reducible exact ih3 _ _ _ _ _ _)
      | (with_reducible exact impl_ChaseLeft.mono _ _ _ _ _ _)
      | (with_reducible exact impl_ChasePresses.mono _ _ _ _ _ _)
      | (with_reducible exact impl_FirstRows.mono _ _ _ _ _)
      | (with_reducible exact impl_GridGraph.mono _ _ _ _)
      | (with_reducible exact impl_PressAll.mono _ _ _ _ _)
      | (with_reducible exact impl_SolveByChase.mono _ _ _ _ _)
      | (with_reducible exact laws_hSame.mono _ _ _)
      | (with_reducible exact spec_ChaseLeft.mono _ _ _ _ _ _)
      | (with_reducible exact spec_ChasePresses.mono _ _ _ _ _ _)
      | (with_reducible exact spec_FirstRows.mono _ _ _ _ _)
      | (with_reducible exact spec_SolveByChase.mono _ _ _ _ _)
      | (with_reducible exact LeO.refl _)
      | (with_reducible exact LeO.none _)
      | (with_reducible refine LeO.ite ?_ ?_)
      | (with_reducible refine LeO.bind ?_ (fun _ => ?_))
      | exact ih0 _ _ _ _ _ _ _ _ _ _
      | exact ih1 _
      | exact ih2 _ _ _ _ _ _ _ _ _
      | exact ih3 _ _ _ _ _ _
      | exact impl_ChaseLeft.mono _ _ _ _ _ _
      | exact impl_ChasePresses.mono _ _ _ _ _ _
      | exact impl_FirstRows.mono _ _ _ _ _
      | exact impl_GridGraph.mono _ _ _ _
      | exact impl_PressAll.mono _ _ _ _ _
      | exact impl_SolveByChase.mono _ _ _ _ _
      | exact laws_hSame.mono _ _ _
      | exact spec_ChaseLeft.mono _ _ _ _ _ _
      | exact spec_ChasePresses.mono _ _ _ _ _ _
      | exact spec_FirstRows.mono _ _ _ _ _
      | exact spec_SolveByChase.mono _ _ _ _ _
      | exact LeO.none _
      | refine LeO.ite ?_ ?_
      | refine LeO.bind ?_ (fun _ => ?_)
    · intro y0 y1 y2 y3 y4 y5
      unfold laws_FnChaseIsElimination.j3
      repeat' first
      | (with_reducible exact ih0 _ _ _ _ _ _ _ _ _ _)
      | (with_reducible exact ih1 _)
      | (with_reducible exact ih2 _ _ _ _ _ _ _ _ _)
      | (with_reducible exact ih3 _ _ _ _ _ _)
      | (with_reducible exact impl_ChaseLeft.mono _ _ _ _ _ _)
      | (with_reducible exact impl_ChasePresses.mono _ _ _ _ _ _)
      | (with_reducible exact impl_FirstRows.mono _ _ _ _ _)
      | (with_reducible exact impl_GridGraph.mono _ _ _ _)
      | (with_reducible exact impl_PressAll.mono _ _ _ _ _)
      | (with_reducible exact impl_SolveByChase.mono _ _ _ _ _)
      | (with_reducible exact laws_hSame.mono _ _ _)
      | (with_reducible exact spec_ChaseLeft.mono _ _ _ _ _ _)
      | (with_reducible exact spec_ChasePresses.mono _ _ _ _ _ _)
      | (with_reducible exact spec_FirstRows.mono _ _ _ _ _)
      | (with_reducible exact spec_SolveByChase.mono _ _ _ _ _)
      | (with_reducible exact LeO.refl _)
      | (with_reducible exact LeO.none _)
      | (with_reducible refine LeO.ite ?_ ?_)
      | (with_reducible refine LeO.bind ?_ (fun _ => ?_))
      | exact ih0 _ _ _ _ _ _ _ _ _ _
      | exact ih1 _
      | exact ih2 _ _ _ _ _ _ _ _ _
      | exact ih3 _ _ _ _ _ _
      | exact impl_ChaseLeft.mono _ _ _ _ _ _
      | exact impl_ChasePresses.mono _ _ _ _ _ _
      | exact impl_FirstRows.mono _ _ _ _ _
      | exact impl_GridGraph.mono _ _ _ _
      | exact impl_PressAll.mono _ _ _ _ _
      | exact impl_SolveByChase.mono _ _ _ _ _
      | exact laws_hSame.mono _ _ _
      | exact spec_ChaseLeft.mono _ _ _ _ _ _
      | exact spec_ChasePresses.mono _ _ _ _ _ _
      | exact spec_FirstRows.mono _ _ _ _ _
      | exact spec_SolveByChase.mono _ _ _ _ _
      | exact LeO.none _
      | refine LeO.ite ?_ ?_
      | refine LeO.bind ?_ (fun _ => ?_)
theorem laws_FnChaseIsElimination.mono : ∀ a0 a1 k, LeO (laws_FnChaseIsElimination.f k a0 a1) (laws_FnChaseIsElimination.f (k + 1) a0 a1) := by
  intro a0 a1 k
  obtain ⟨ih0, ih1, ih2, ih3⟩ := laws_FnChaseIsElimination.mono_l k
  unfold laws_FnChaseIsElimination.f
  repeat' first
      | (with_reducible exact ih0 _ _ _ _ _ _ _ _ _ _)
      | (with_reducible exact ih1 _)
      | (with_reducible exact ih2 _ _ _ _ _ _ _ _ _)
      | (with_reducible exact ih3 _ _ _ _ _ _)
      | (with_reducible exact impl_ChaseLeft.mono _ _ _ _ _ _)
      | (with_reducible exact impl_ChasePresses.mono _ _ _ _ _ _)
      | (with_reducible exact impl_FirstRows.mono _ _ _ _ _)
      | (with_reducible exact impl_GridGraph.mono _ _ _ _)
      | (with_reducible exact impl_PressAll.mono _ _ _ _ _)
      | (with_reducible exact impl_SolveByChase.mono _ _ _ _ _)
      | (with_reducible exact laws_hSame.mono _ _ _)
      | (with_reducible exact spec_ChaseLeft.mono _ _ _ _ _ _)
      | (with_reducible exact spec_ChasePresses.mono _ _ _ _ _ _)
      | (with_reducible exact spec_FirstRows.mono _ _ _ _ _)
      | (with_reducible exact spec_SolveByChase.mono _ _ _ _ _)
      | (with_reducible exact LeO.refl _)
      | (with_reducible exact LeO.none _)
      | (with_reducible refine LeO.ite ?_ ?_)
      | (with_reducible refine LeO.bind ?_ (fun _ => ?_))
      | exact ih0 _ _ _ _ _ _ _ _ _ _
      | exact ih1 _
      | exact ih2 _ _ _ _ _ _ _ _ _
      | exact ih3 _ _ _ _ _ _
      | exact impl_ChaseLeft.mono _ _ _ _ _ _
      | exact impl_ChasePresses.mono _ _ _ _ _ _
      | exact impl_FirstRows.mono _ _ _ _ _
      | exact impl_GridGraph.mono _ _ _ _
      | exact impl_PressAll.mono _ _ _ _ _
      | exact impl_SolveByChase.mono _ _ _ _ _
      | exact laws_hSame.mono _ _ _
      | exact spec_ChaseLeft.mono _ _ _ _ _ _
      | exact spec_ChasePresses.mono _ _ _ _ _ _
      | exact spec_FirstRows.mono _ _ _ _ _
      | exact spec_SolveByChase.mono _ _ _ _ _
      | exact LeO.none _
      | refine LeO.ite ?_ ?_
      | refine LeO.bind ?_ (fun _ => ?_)
set_option maxHeartbeats 8000000 in
set_option maxRecDepth 100000 in
theorem laws_FnChaseIsElimination.calls (k : Nat) (A0 : Option Addr) (c0 : Nat) (l0 : List Int) (A1 : Option Addr) (c1 : Nat) (l1 : List Int) (r : Bool) (w : World) (hr0 : Kd.C (Kd.int .u8) w A0 l0.length l0) (hc0 : l0.length ≤ c0) (hr1 : Kd.C (Kd.int .u8) w A1 l1.length l1) (hc1 : l1.length ≤ c1) (h : laws_FnChaseIsElimination.f k l0 l1 = some r) :
  Calls Try.prog 4 #[.slice A0 l0.length c0, .slice A1 l1.length c1] w fun e w' => e = .returned (.bool r) ∧ Below w.heap.size w w' := by
 have hu36 := Try.underlying36
 have HR0 := Aside0.mk hr0
 have HC0 := Aside0.mk hc0
 clear hr0 hc0
 have HR1 := Aside0.mk hr1
 have HC1 := Aside0.mk hc1
 clear hr1 hc1
 have HB := Aside0.mk (Below.refl w.heap.size w)
 have H : ((laws_big.f l0 l1).bind fun t275 => (if t275 = true then (some true) else ((spec_DrawChasePresses.f l0).bind fun bt276 => ((impl_ChasePresses.f k bt276.1 bt276.2.1 bt276.2.2.1 bt276.2.2.2.1 bt276.2.2.2.2).bind fun bt281 => ((spec_ChasePresses.f k bt276.1 bt276.2.1 bt276.2.2.1 bt276.2.2.2.1 bt276.2.2.2.2).bind fun bt283 => ((impl_ChaseLeft.f k bt276.1 bt276.2.1 bt276.2.2.1 bt276.2.2.2.1 bt276.2.2.2.2).bind fun bt285 => ((spec_ChaseLeft.f k bt276.1 bt276.2.1 bt276.2.2.1 bt276.2.2.2.1 bt276.2.2.2.2).bind fun bt287 => (if (bt281.2 != bt283.2) = true then (laws_FnChaseIsElimination.j0 k l1 bt276.1 bt276.2.1 bt276.2.2.1 bt276.2.2.2.1 bt276.2.2.2.2 bt281.1 bt281.2 bt285.1 true) else (if bt281.1 = bt283.1 then (if (bt285.2 != bt287.2) = true then (laws_FnChaseIsElimination.j0 k l1 bt276.1 bt276.2.1 bt276.2.2.1 bt276.2.2.2.1 bt276.2.2.2.2 bt281.1 bt281.2 bt285.1 true) else (if bt285.1 = bt287.1 then (laws_FnChaseIsElimination.j0 k l1 bt276.1 bt276.2.1 bt276.2.2.1 bt276.2.2.2.1 bt276.2.2.2.2 bt281.1 bt281.2 bt285.1 (bt285.2 != bt281.2)) else (laws_FnChaseIsElimination.j0 k l1 bt276.1 bt276.2.1 bt276.2.2.1 bt276.2.2.2.1 bt276.2.2.2.2 bt281.1 bt281.2 bt285.1 true))) else (laws_FnChaseIsElimination.j0 k l1 bt276.1 bt276.2.1 bt276.2.2.1 bt276.2.2.2.1 bt276.2.2.2.2 bt281.1 bt281.2 bt285.1 true)))))))))) = some r := h
 clear h
 replace H := Option.bind_eq_some_iff.mp H
 obtain ⟨t275, A30, H⟩ := H
 replace H : (if t275 = true then (some true) else ((spec_DrawChasePresses.f l0).bind fun bt276 => ((impl_ChasePresses.f k bt276.1 bt276.2.1 bt276.2.2.1 bt276.2.2.2.1 bt276.2.2.2.2).bind fun bt281 => ((spec_ChasePresses.f k bt276.1 bt276.2.1 bt276.2.2.1 bt276.2.2.2.1 bt276.2.2.2.2).bind fun bt283 => ((impl_ChaseLeft.f k bt276.1 bt276.2.1 bt276.2.2.1 bt276.2.2.2.1 bt276.2.2.2.2).bind fun bt285 => ((spec_ChaseLeft.f k bt276.1 bt276.2.1 bt276.2.2.1 bt276.2.2.2.1 bt276.2.2.2.2).bind fun bt287 => (if (bt281.2 != bt283.2) = true then (laws_FnChaseIsElimination.j0 k l1 bt276.1 bt276.2.1 bt276.2.2.1 bt276.2.2.2.1 bt276.2.2.2.2 bt281.1 bt281.2 bt285.1 true) else (if bt281.1 = bt283.1 then (if (bt285.2 != bt287.2) = true then (laws_FnChaseIsElimination.j0 k l1 bt276.1 bt276.2.1 bt276.2.2.1 bt276.2.2.2.1 bt276.2.2.2.2 bt281.1 bt281.2 bt285.1 true) else (if bt285.1 = bt287.1 then (laws_FnChaseIsElimination.j0 k l1 bt276.1 bt276.2.1 bt276.2.2.1 bt276.2.2.2.1 bt276.2.2.2.2 bt281.1 bt281.2 bt285.1 (bt285.2 != bt281.2)) else (laws_FnChaseIsElimination.j0 k l1 bt276.1 bt276.2.1 bt276.2.2.1 bt276.2.2.2.1 bt276.2.2.2.2 bt281.1 bt281.2 bt285.1 true))) else (laws_FnChaseIsElimination.j0 k l1 bt276.1 bt276.2.1 bt276.2.2.1 bt276.2.2.2.1 bt276.2.2.2.2 bt281.1 bt281.2 bt285.1 true))))))))) = some r := H
 have A3 := Aside0.mk A30
 clear A30
 by_cases c4 : t275 = true
 ·
  subst c4
  have H1 : (some true) = some r := by rw [if_pos rfl] at H; exact H
  clear H
  have H := H1
  clear H1
  obtain rfl := Option.some.inj H
  go_enter Try.func4, Try.ntmps4
  go_wp2_with (first | ((with_reducible refine gate_callee (f := 6) rfl ?_); refine goesL_ (some 44) rfl rfl Try.func6 (by kernel_rfl) rfl #[.slice A0 l0.length c0, .slice A1 l1.length c1] rfl (by (try simp only [List.map_toArray, List.map_cons, List.map_nil]); first | done | rfl | (simp only [List.length_drop, List.length_take]; rfl)) ?_; (with_reducible refine (laws_big.calls _ _ l0 _ _ l1 true _ ?side1 ?side2 ?side3 ?side4 A3.out).mono ?_); (case side1 => repeat (first | exact HR0.out | (with_reducible refine Kd.C_alloc ?_ _) | (with_reducible refine Kd.C_drewN ?_ _) | (with_reducible refine Kd.C_drew ?_))); (case side2 => exact HC0.out); (case side3 => repeat (first | exact HR1.out | (with_reducible refine Kd.C_alloc ?_ _) | (with_reducible refine Kd.C_drewN ?_ _) | (with_reducible refine Kd.C_drew ?_))); (case side4 => exact HC1.out); rintro e w' ⟨rfl, ⟨nd, rfl⟩⟩; refine ⟨_, rfl, ?_⟩))
  go_ret
  exact ⟨by first | rfl | (simp [errW_none, errW_some] <;> rfl) | (simp [*, errW_none, errW_some] <;> rfl), by repeat (first | (with_reducible first | exact HB.out | apply below_alloc | apply pw_below_drewN | apply below_drew1) | exact HB.out)⟩
 ·
  replace c4 := Bool.eq_false_iff.mpr c4
  subst c4
  have H1 : ((spec_DrawChasePresses.f l0).bind fun bt276 => ((impl_ChasePresses.f k bt276.1 bt276.2.1 bt276.2.2.1 bt276.2.2.2.1 bt276.2.2.2.2).bind fun bt281 => ((spec_ChasePresses.f k bt276.1 bt276.2.1 bt276.2.2.1 bt276.2.2.2.1 bt276.2.2.2.2).bind fun bt283 => ((impl_ChaseLeft.f k bt276.1 bt276.2.1 bt276.2.2.1 bt276.2.2.2.1 bt276.2.2.2.2).bind fun bt285 => ((spec_ChaseLeft.f k bt276.1 bt276.2.1 bt276.2.2.1 bt276.2.2.2.1 bt276.2.2.2.2).bind fun bt287 => (if (bt281.2 != bt283.2) = true then (laws_FnChaseIsElimination.j0 k l1 bt276.1 bt276.2.1 bt276.2.2.1 bt276.2.2.2.1 bt276.2.2.2.2 bt281.1 bt281.2 bt285.1 true) else (if bt281.1 = bt283.1 then (if (bt285.2 != bt287.2) = true then (laws_FnChaseIsElimination.j0 k l1 bt276.1 bt276.2.1 bt276.2.2.1 bt276.2.2.2.1 bt276.2.2.2.2 bt281.1 bt281.2 bt285.1 true) else (if bt285.1 = bt287.1 then (laws_FnChaseIsElimination.j0 k l1 bt276.1 bt276.2.1 bt276.2.2.1 bt276.2.2.2.1 bt276.2.2.2.2 bt281.1 bt281.2 bt285.1 (bt285.2 != bt281.2)) else (laws_FnChaseIsElimination.j0 k l1 bt276.1 bt276.2.1 bt276.2.2.1 bt276.2.2.2.1 bt276.2.2.2.2 bt281.1 bt281.2 bt285.1 true))) else (laws_FnChaseIsElimination.j0 k l1 bt276.1 bt276.2.1 bt276.2.2.1 bt276.2.2.2.1 bt276.2.2.2.2 bt281.1 bt281.2 bt285.1 true)))))))) = some r := by rw [if_neg (show ¬ (false = true) by decide)] at H; exact H
  clear H
  have H := H1
  clear H1
  replace H := Option.bind_eq_some_iff.mp H
  obtain ⟨⟨t276, t277, t278, t279, t280⟩, A50, H⟩ := H
  replace H : ((impl_ChasePresses.f k t276 t277 t278 t279 t280).bind fun bt281 => ((spec_ChasePresses.f k t276 t277 t278 t279 t280).bind fun bt283 => ((impl_ChaseLeft.f k t276 t277 t278 t279 t280).bind fun bt285 => ((spec_ChaseLeft.f k t276 t277 t278 t279 t280).bind fun bt287 => (if (bt281.2 != bt283.2) = true then (laws_FnChaseIsElimination.j0 k l1 t276 t277 t278 t279 t280 bt281.1 bt281.2 bt285.1 true) else (if bt281.1 = bt283.1 then (if (bt285.2 != bt287.2) = true then (laws_FnChaseIsElimination.j0 k l1 t276 t277 t278 t279 t280 bt281.1 bt281.2 bt285.1 true) else (if bt285.1 = bt287.1 then (laws_FnChaseIsElimination.j0 k l1 t276 t277 t278 t279 t280 bt281.1 bt281.2 bt285.1 (bt285.2 != bt281.2)) else (laws_FnChaseIsElimination.j0 k l1 t276 t277 t278 t279 t280 bt281.1 bt281.2 bt285.1 true))) else (laws_FnChaseIsElimination.j0 k l1 t276 t277 t278 t279 t280 bt281.1 bt281.2 bt285.1 true))))))) = some r := H
  have A5 := Aside0.mk A50
  clear A50
  replace H := Option.bind_eq_some_iff.mp H
  obtain ⟨⟨t281, t282⟩, A60, H⟩ := H
  replace H : ((spec_ChasePresses.f k t276 t277 t278 t279 t280).bind fun bt283 => ((impl_ChaseLeft.f k t276 t277 t278 t279 t280).bind fun bt285 => ((spec_ChaseLeft.f k t276 t277 t278 t279 t280).bind fun bt287 => (if (t282 != bt283.2) = true then (laws_FnChaseIsElimination.j0 k l1 t276 t277 t278 t279 t280 t281 t282 bt285.1 true) else (if t281 = bt283.1 then (if (bt285.2 != bt287.2) = true then (laws_FnChaseIsElimination.j0 k l1 t276 t277 t278 t279 t280 t281 t282 bt285.1 true) else (if bt285.1 = bt287.1 then (laws_FnChaseIsElimination.j0 k l1 t276 t277 t278 t279 t280 t281 t282 bt285.1 (bt285.2 != t282)) else (laws_FnChaseIsElimination.j0 k l1 t276 t277 t278 t279 t280 t281 t282 bt285.1 true))) else (laws_FnChaseIsElimination.j0 k l1 t276 t277 t278 t279 t280 t281 t282 bt285.1 true)))))) = some r := H
  have A6 := Aside0.mk A60
  clear A60
  replace H := Option.bind_eq_some_iff.mp H
  obtain ⟨⟨t283, t284⟩, A70, H⟩ := H
  replace H : ((impl_ChaseLeft.f k t276 t277 t278 t279 t280).bind fun bt285 => ((spec_ChaseLeft.f k t276 t277 t278 t279 t280).bind fun bt287 => (if (t282 != t284) = true then (laws_FnChaseIsElimination.j0 k l1 t276 t277 t278 t279 t280 t281 t282 bt285.1 true) else (if t281 = t283 then (if (bt285.2 != bt287.2) = true then (laws_FnChaseIsElimination.j0 k l1 t276 t277 t278 t279 t280 t281 t282 bt285.1 true) else (if bt285.1 = bt287.1 then (laws_FnChaseIsElimination.j0 k l1 t276 t277 t278 t279 t280 t281 t282 bt285.1 (bt285.2 != t282)) else (laws_FnChaseIsElimination.j0 k l1 t276 t277 t278 t279 t280 t281 t282 bt285.1 true))) else (laws_FnChaseIsElimination.j0 k l1 t276 t277 t278 t279 t280 t281 t282 bt285.1 true))))) = some r := H
  have A7 := Aside0.mk A70
  clear A70
  replace H := Option.bind_eq_some_iff.mp H
  obtain ⟨⟨t285, t286⟩, A80, H⟩ := H
  replace H : ((spec_ChaseLeft.f k t276 t277 t278 t279 t280).bind fun bt287 => (if (t282 != t284) = true then (laws_FnChaseIsElimination.j0 k l1 t276 t277 t278 t279 t280 t281 t282 t285 true) else (if t281 = t283 then (if (t286 != bt287.2) = true then (laws_FnChaseIsElimination.j0 k l1 t276 t277 t278 t279 t280 t281 t282 t285 true) else (if t285 = bt287.1 then (laws_FnChaseIsElimination.j0 k l1 t276 t277 t278 t279 t280 t281 t282 t285 (t286 != t282)) else (laws_FnChaseIsElimination.j0 k l1 t276 t277 t278 t279 t280 t281 t282 t285 true))) else (laws_FnChaseIsElimination.j0 k l1 t276 t277 t278 t279 t280 t281 t282 t285 true)))) = some r := H
  have A8 := Aside0.mk A80
  clear A80
  replace H := Option.bind_eq_some_iff.mp H
  obtain ⟨⟨t287, t288⟩, A90, H⟩ := H
  replace H : (if (t282 != t284) = true then (laws_FnChaseIsElimination.j0 k l1 t276 t277 t278 t279 t280 t281 t282 t285 true) else (if t281 = t283 then (if (t286 != t288) = true then (laws_FnChaseIsElimination.j0 k l1 t276 t277 t278 t279 t280 t281 t282 t285 true) else (if t285 = t287 then (laws_FnChaseIsElimination.j0 k l1 t276 t277 t278 t279 t280 t281 t282 t285 (t286 != t282)) else (laws_FnChaseIsElimination.j0 k l1 t276 t277 t278 t279 t280 t281 t282 t285 true))) else (laws_FnChaseIsElimination.j0 k l1 t276 t277 t278 t279 t280 t281 t282 t285 true))) = some r := H
  have A9 := Aside0.mk A90
  clear A90
  have HC10 := Aside0.mk H
  clear H
  go_enter Try.func4, Try.ntmps4
  go_upto_region 8 with (first | ((with_reducible refine gate_callee (f := 6) rfl ?_); refine goesL_ (some 44) rfl rfl Try.func6 (by kernel_rfl) rfl #[.slice A0 l0.length c0, .slice A1 l1.length c1] rfl (by (try simp only [List.map_toArray, List.map_cons, List.map_nil]); first | done | rfl | (simp only [List.length_drop, List.length_take]; rfl)) ?_; (with_reducible refine (laws_big.calls _ _ l0 _ _ l1 false _ ?side1 ?side2 ?side3 ?side4 A3.out).mono ?_); (case side1 => repeat (first | exact HR0.out | (with_reducible refine Kd.C_alloc ?_ _) | (with_reducible refine Kd.C_drewN ?_ _) | (with_reducible refine Kd.C_drew ?_))); (case side2 => exact HC0.out); (case side3 => repeat (first | exact HR1.out | (with_reducible refine Kd.C_alloc ?_ _) | (with_reducible refine Kd.C_drewN ?_ _) | (with_reducible refine Kd.C_drew ?_))); (case side4 => exact HC1.out); rintro e w' ⟨rfl, ⟨nd, rfl⟩⟩; refine ⟨_, rfl, ?_⟩) | ((with_reducible refine gate_callee (f := 16) rfl ?_); refine goesL_ (some 47) rfl rfl Try.func16 (by kernel_rfl) rfl #[.slice A0 l0.length c0] rfl (by (try simp only [List.map_toArray, List.map_cons, List.map_nil]); first | done | rfl | (simp only [List.length_drop, List.length_take]; rfl)) ?_; (with_reducible refine (spec_DrawChasePresses.calls _ _ l0 t276 t277 t278 t279 t280 _ ?side1 ?side2 A5.out).mono ?_); (case side1 => repeat (first | exact HR0.out | (with_reducible refine Kd.C_alloc ?_ _) | (with_reducible refine Kd.C_drewN ?_ _) | (with_reducible refine Kd.C_drew ?_))); (case side2 => exact HC0.out); rintro e w11 ⟨rfl, hb⟩; refine ⟨_, rfl, ?_⟩; have n0_ := Aside0.mk (below_step (by repeat (first | (with_reducible first | exact HB.out | apply below_alloc | apply pw_below_drewN | apply below_drew1) | exact HB.out)) hb); clear HB; have HB := n0_; clear n0_; (try clear hb); (try clear hb2); (try clear hk); (try clear hi)) | ((with_reducible refine gate_callee (f := 17) rfl ?_); refine goesL_ (some 59) rfl rfl Try.func17 (by kernel_rfl) rfl #[.int .i64 t276, .int .i64 t277, .bool t278, .int .i64 t279, .int .i64 t280] rfl (by (try simp only [List.map_toArray, List.map_cons, List.map_nil]); first | done | rfl | (simp only [List.length_drop, List.length_take]; rfl)) ?_; (with_reducible refine (impl_ChasePresses.calls k t276 t277 t278 t279 t280 t281 t282 _ A6.out).mono ?_); rintro e w12 ⟨rfl, hb⟩; refine ⟨_, rfl, ?_⟩; have n0_ := Aside0.mk (below_step (by repeat (first | (with_reducible first | exact HB.out | apply below_alloc | apply pw_below_drewN | apply below_drew1) | exact HB.out)) hb); clear HB; have HB := n0_; clear n0_; (try clear hb); (try clear hb2); (try clear hk); (try clear hi)) | ((with_reducible refine gate_callee (f := 18) rfl ?_); refine goesL_ (some 68) rfl rfl Try.func18 (by kernel_rfl) rfl #[.int .i64 t276, .int .i64 t277, .bool t278, .int .i64 t279, .int .i64 t280] rfl (by (try simp only [List.map_toArray, List.map_cons, List.map_nil]); first | done | rfl | (simp only [List.length_drop, List.length_take]; rfl)) ?_; (with_reducible refine (spec_ChasePresses.calls k t276 t277 t278 t279 t280 t283 t284 _ A7.out).mono ?_); rintro e w' ⟨rfl, ⟨nd, rfl⟩⟩; refine ⟨_, rfl, ?_⟩) | ((with_reducible refine gate_callee (f := 11) rfl ?_); refine goesL_ (some 77) rfl rfl Try.func11 (by kernel_rfl) rfl #[.int .i64 t276, .int .i64 t277, .bool t278, .int .i64 t279, .int .i64 t280] rfl (by (try simp only [List.map_toArray, List.map_cons, List.map_nil]); first | done | rfl | (simp only [List.length_drop, List.length_take]; rfl)) ?_; (with_reducible refine (impl_ChaseLeft.calls k t276 t277 t278 t279 t280 t285 t286 _ A8.out).mono ?_); rintro e w13 ⟨rfl, hb⟩; refine ⟨_, rfl, ?_⟩; have n0_ := Aside0.mk (below_step (by repeat (first | (with_reducible first | exact HB.out | apply below_alloc | apply pw_below_drewN | apply below_drew1) | exact HB.out)) hb); clear HB; have HB := n0_; clear n0_; (try clear hb); (try clear hb2); (try clear hk); (try clear hi)) | ((with_reducible refine gate_callee (f := 19) rfl ?_); refine goesL_ (some 86) rfl rfl Try.func19 (by kernel_rfl) rfl #[.int .i64 t276, .int .i64 t277, .bool t278, .int .i64 t279, .int .i64 t280] rfl (by (try simp only [List.map_toArray, List.map_cons, List.map_nil]); first | done | rfl | (simp only [List.length_drop, List.length_take]; rfl)) ?_; (with_reducible refine (spec_ChaseLeft.calls k t276 t277 t278 t279 t280 t287 t288 _ A9.out).mono ?_); rintro e w' ⟨rfl, ⟨nd, rfl⟩⟩; refine ⟨_, rfl, ?_⟩))
  (try simp only [Act.put, List.setIfInBounds_toArray, List.set_cons_zero, List.set_cons_succ])
  go_cut [111] (fun v111 wc => ∃ (kq : Nat) (x111_9 : Bool), v111 = .bool x111_9 ∧ Aside0 (laws_FnChaseIsElimination.j0 kq l1 t276 t277 t278 t279 t280 t281 t282 t285 x111_9 = some r) ∧ Aside0 (kq ≤ k) ∧ Aside0 (Below w.heap.size w wc))
  case first => as_aux_lemma =>
   have H := HC10.out
   clear HC10
   by_cases c14 : (t282 != t284) = true
   ·
    rw [if_pos c14] at H
    have c14b0 : (t282 != t284) = true := c14
    (try (have c14b1 : decide (t282 = t284) = false := by simpa using c14))
    (try (have c14b2 : (t282 == t284) = false := by simpa using c14))
    (try (have c14b3 : ¬ (t282 = t284) := by simpa using c14))
    clear c14
    (first | rw [c14b0] | (simp only [i64_w, i32_w]; rw [c14b0]) | skip)
    have H' := Aside0.mk H
    clear H
    go_wp2
    go_meet
    case rel => exact ⟨_, (true), (by first | rfl | (simp; done) | (simp [*]; done)), H', ⟨by first | omega | exact Nat.le_refl _⟩, ⟨by repeat (first | (with_reducible first | exact HB.out | apply below_alloc | apply pw_below_drewN | apply below_drew1) | exact HB.out)⟩⟩
   ·
    rw [if_neg c14] at H
    have c14b0 : (t282 != t284) = false := by simpa using c14
    (try (have c14b1 : decide (t282 = t284) = true := by simpa using c14))
    (try (have c14b2 : (t282 == t284) = true := by simpa using c14))
    clear c14
    (first | rw [c14b0] | (simp only [i64_w, i32_w]; rw [c14b0]) | skip)
    by_cases c15 : t281 = t283
    ·
     rw [if_pos c15] at H
     have c15b0 : (t281 == t283) = true := beq_iff_eq.mpr c15
     have c15b1 : (t281 != t283) = false := bne_eq_false_iff_eq.mpr c15
     clear c15
     by_cases c16 : (t286 != t288) = true
     ·
      rw [if_pos c16] at H
      have c16b0 : (t286 != t288) = true := c16
      (try (have c16b1 : decide (t286 = t288) = false := by simpa using c16))
      (try (have c16b2 : (t286 == t288) = false := by simpa using c16))
      (try (have c16b3 : ¬ (t286 = t288) := by simpa using c16))
      clear c16
      have H' := Aside0.mk H
      clear H
      go_wp2
      go_meet
      case rel => exact ⟨_, (true), (by first | rfl | (simp; done) | (simp [*]; done)), H', ⟨by first | omega | exact Nat.le_refl _⟩, ⟨by repeat (first | (with_reducible first | exact HB.out | apply below_alloc | apply pw_below_drewN | apply below_drew1) | exact HB.out)⟩⟩
     ·
      rw [if_neg c16] at H
      have c16b0 : (t286 != t288) = false := by simpa using c16
      (try (have c16b1 : decide (t286 = t288) = true := by simpa using c16))
      (try (have c16b2 : (t286 == t288) = true := by simpa using c16))
      clear c16
      by_cases c17 : t285 = t287
      ·
       rw [if_pos c17] at H
       have c17b0 : (t285 == t287) = true := beq_iff_eq.mpr c17
       have c17b1 : (t285 != t287) = false := bne_eq_false_iff_eq.mpr c17
       clear c17
       have H' := Aside0.mk H
       clear H
       go_wp2
       go_meet
       case rel => exact ⟨_, ((t286 != t282)), (by first | rfl | (simp; done) | (simp [*]; done) | (simp; cases t286 <;> simp)), H', ⟨by first | omega | exact Nat.le_refl _⟩, ⟨by repeat (first | (with_reducible first | exact HB.out | apply below_alloc | apply pw_below_drewN | apply below_drew1) | exact HB.out)⟩⟩
      ·
       rw [if_neg c17] at H
       have c17b0 : (t285 == t287) = false := beq_eq_false_iff_ne.mpr c17
       have c17b1 : (t285 != t287) = true := bne_iff_ne.mpr c17
       have H' := Aside0.mk H
       clear H
       go_wp2
       go_meet
       case rel => exact ⟨_, (true), (by first | rfl | (simp; done) | (simp [*]; done)), H', ⟨by first | omega | exact Nat.le_refl _⟩, ⟨by repeat (first | (with_reducible first | exact HB.out | apply below_alloc | apply pw_below_drewN | apply below_drew1) | exact HB.out)⟩⟩
    ·
     rw [if_neg c15] at H
     have c15b0 : (t281 == t283) = false := beq_eq_false_iff_ne.mpr c15
     have c15b1 : (t281 != t283) = true := bne_iff_ne.mpr c15
     have H' := Aside0.mk H
     clear H
     go_wp2
     go_meet
     case rel => exact ⟨_, (true), (by first | rfl | (simp; done) | (simp [*]; done)), H', ⟨by first | omega | exact Nat.le_refl _⟩, ⟨by repeat (first | (with_reducible first | exact HB.out | apply below_alloc | apply pw_below_drewN | apply below_drew1) | exact HB.out)⟩⟩
  case rest =>
   clear HC10
   try clear c1
   try clear p2
   try clear c4
   try clear c6
   try clear c11
   try clear c14
   try clear c14b0
   try clear c14b1
   try clear c14b2
   try clear c15
   try clear c15b0
   try clear c15b1
   try clear c16
   try clear c16b0
   try clear c16b1
   try clear c16b2
   try clear c17
   try clear c17b0
   try clear c17b1
   obtain ⟨kq, x111_9, rfl, HA, HJ9, HB⟩ := hcut
   cases kq with
   | zero => exact absurd HA.out (by simp [laws_FnChaseIsElimination.j0])
   | succ kj9 =>
    have H := HA.out
    clear HA
    simp only [laws_FnChaseIsElimination.j0] at H
    by_cases c18 : x111_9 = true
    ·
     subst c18
     have H1 : (some false) = some r := by rw [if_pos rfl] at H; exact H
     clear H
     have H := H1
     clear H1
     obtain rfl := Option.some.inj H
     go_wp2
     go_ret
     exact ⟨by first | rfl | (simp [errW_none, errW_some] <;> rfl) | (simp [*, errW_none, errW_some] <;> rfl), by repeat (first | (with_reducible first | exact HB.out | apply below_alloc | apply pw_below_drewN | apply below_drew1) | exact HB.out)⟩
    ·
     replace c18 := Bool.eq_false_iff.mpr c18
     subst c18
     have H1 : (if t282 = true then ((impl_GridGraph.f kj9 t276 t277 t278).bind fun bt289 => ((impl_PressAll.f kj9 bt289.1 bt289.2.1 t279 t281).bind fun bt295 => (if bt289.2.2 = true then (if bt295.2 = true then (if 0 ≤ (wrap64 (t277 * (wrap64 (t276 - 1)))) then (if bt295.1 = (shl .i64 t285 (wrap64 (t277 * (wrap64 (t276 - 1))))) then (if 0 ≤ t277 then (if (Go.bits .and .i64 t281 (wrap64 ((shl .i64 1 t277) - 1))) = t280 then (laws_FnChaseIsElimination.j1 kj9 l1) else (some false)) else (none)) else (some false)) else (none)) else (some false)) else (some false)))) else (laws_FnChaseIsElimination.j1 kj9 l1)) = some r := by rw [if_neg (show ¬ (false = true) by decide)] at H; exact H
     clear H
     have H := H1
     clear H1
     have HC19 := Aside0.mk H
     clear H
     go_upto_if 112 with (fail)
     go_cut [] (fun wc => ∃ (kq : Nat), Aside0 (laws_FnChaseIsElimination.j1 kq l1 = some r) ∧ Aside0 (kq ≤ kj9) ∧ Aside0 (Below w.heap.size w wc))
     case first => as_aux_lemma =>
      have H := HC19.out
      clear HC19
      by_cases c20 : t282 = true
      ·
       subst c20
       have H1 : ((impl_GridGraph.f kj9 t276 t277 t278).bind fun bt289 => ((impl_PressAll.f kj9 bt289.1 bt289.2.1 t279 t281).bind fun bt295 => (if bt289.2.2 = true then (if bt295.2 = true then (if 0 ≤ (wrap64 (t277 * (wrap64 (t276 - 1)))) then (if bt295.1 = (shl .i64 t285 (wrap64 (t277 * (wrap64 (t276 - 1))))) then (if 0 ≤ t277 then (if (Go.bits .and .i64 t281 (wrap64 ((shl .i64 1 t277) - 1))) = t280 then (laws_FnChaseIsElimination.j1 kj9 l1) else (some false)) else (none)) else (some false)) else (none)) else (some false)) else (some false)))) = some r := by rw [if_pos rfl] at H; exact H
       clear H
       have H := H1
       clear H1
       replace H := Option.bind_eq_some_iff.mp H
       obtain ⟨⟨t289, t292, t293⟩, A210, H⟩ := H
       replace H : ((impl_PressAll.f kj9 t289 t292 t279 t281).bind fun bt295 => (if t293 = true then (if bt295.2 = true then (if 0 ≤ (wrap64 (t277 * (wrap64 (t276 - 1)))) then (if bt295.1 = (shl .i64 t285 (wrap64 (t277 * (wrap64 (t276 - 1))))) then (if 0 ≤ t277 then (if (Go.bits .and .i64 t281 (wrap64 ((shl .i64 1 t277) - 1))) = t280 then (laws_FnChaseIsElimination.j1 kj9 l1) else (some false)) else (none)) else (some false)) else (none)) else (some false)) else (some false))) = some r := H
       have A21 := Aside0.mk A210
       clear A210
       replace H := Option.bind_eq_some_iff.mp H
       obtain ⟨⟨t295, t296⟩, A220, H⟩ := H
       replace H : (if t293 = true then (if t296 = true then (if 0 ≤ (wrap64 (t277 * (wrap64 (t276 - 1)))) then (if t295 = (shl .i64 t285 (wrap64 (t277 * (wrap64 (t276 - 1))))) then (if 0 ≤ t277 then (if (Go.bits .and .i64 t281 (wrap64 ((shl .i64 1 t277) - 1))) = t280 then (laws_FnChaseIsElimination.j1 kj9 l1) else (some false)) else (none)) else (some false)) else (none)) else (some false)) else (some false)) = some r := H
       have A22 := Aside0.mk A220
       clear A220
       by_cases c23 : t293 = true
       ·
        subst c23
        have H1 : (if t296 = true then (if 0 ≤ (wrap64 (t277 * (wrap64 (t276 - 1)))) then (if t295 = (shl .i64 t285 (wrap64 (t277 * (wrap64 (t276 - 1))))) then (if 0 ≤ t277 then (if (Go.bits .and .i64 t281 (wrap64 ((shl .i64 1 t277) - 1))) = t280 then (laws_FnChaseIsElimination.j1 kj9 l1) else (some false)) else (none)) else (some false)) else (none)) else (some false)) = some r := by rw [if_pos rfl] at H; exact H
        clear H
        have H := H1
        clear H1
        by_cases c24 : t296 = true
        ·
         subst c24
         have H1 : (if 0 ≤ (wrap64 (t277 * (wrap64 (t276 - 1)))) then (if t295 = (shl .i64 t285 (wrap64 (t277 * (wrap64 (t276 - 1))))) then (if 0 ≤ t277 then (if (Go.bits .and .i64 t281 (wrap64 ((shl .i64 1 t277) - 1))) = t280 then (laws_FnChaseIsElimination.j1 kj9 l1) else (some false)) else (none)) else (some false)) else (none)) = some r := by rw [if_pos rfl] at H; exact H
         clear H
         have H := H1
         clear H1
         obtain ⟨ji25, hji25⟩ : ∃ j_ : Int, (wrap64 (t277 * (wrap64 (t276 - 1)))) = j_ := ⟨_, rfl⟩
         replace H : (if 0 ≤ (ji25) then (if t295 = (shl .i64 t285 (ji25)) then (if 0 ≤ t277 then (if (Go.bits .and .i64 t281 (wrap64 ((shl .i64 1 t277) - 1))) = t280 then (laws_FnChaseIsElimination.j1 kj9 l1) else (some false)) else (none)) else (some false)) else (none)) = some r := by first | (rw [hji25] at H; exact H) | (simp only [hji25] at H ⊢; exact H)
         (try rw [hji25] at A21)
         (try rw [hji25] at A22)
         have hji25w : (IntKind.i64.wrap (t277 * (wrap64 (t276 - 1)))) = ji25 := (i64_w _).trans hji25
         by_cases c26 : 0 ≤ (ji25)
         ·
          rw [if_pos c26] at H
          have c26b0 := eq_true c26
          have c26b1 : decide (0 ≤ (ji25)) = true := decide_eq_true c26
          clear c26
          obtain ⟨ji27, hji27⟩ : ∃ j_ : Int, (shl .i64 t285 (ji25)) = j_ := ⟨_, rfl⟩
          replace H : (if t295 = (ji27) then (if 0 ≤ t277 then (if (Go.bits .and .i64 t281 (wrap64 ((shl .i64 1 t277) - 1))) = t280 then (laws_FnChaseIsElimination.j1 kj9 l1) else (some false)) else (none)) else (some false)) = some r := by first | (rw [hji27] at H; exact H) | (simp only [hji27] at H ⊢; exact H)
          (try rw [hji27] at A21)
          (try rw [hji27] at A22)
          have hji27_ : (IntKind.i64.wrap (t285 * 2 ^ min (ji25).toNat 64)) = ji27 := hji27
          have hji27z : (ji25) ≤ 64 → (IntKind.i64.wrap (t285 * 2 ^ (ji25).toNat)) = ji27 := shl_small hji27
          have hji27y : (wrap64 (t285 * 2 ^ min (ji25).toNat 64)) = ji27 := (i64_w _).symm.trans hji27_
          have hji27x : (ji25) ≤ 64 → (wrap64 (t285 * 2 ^ (ji25).toNat)) = ji27 := fun h_ => (i64_w _).symm.trans (hji27z h_)
          by_cases c28 : t295 = (ji27)
          ·
           rw [if_pos c28] at H
           have c28b0 : (t295 == (ji27)) = true := beq_iff_eq.mpr c28
           have c28b1 : (t295 != (ji27)) = false := bne_eq_false_iff_eq.mpr c28
           clear c28
           (first | rw [c28b0] | (simp only [i64_w, i32_w]; rw [c28b0]) | skip)
           by_cases c29 : 0 ≤ t277
           ·
            rw [if_pos c29] at H
            have c29b0 := eq_true c29
            have c29b1 : decide (0 ≤ t277) = true := decide_eq_true c29
            clear c29
            obtain ⟨ji30, hji30⟩ : ∃ j_ : Int, (shl .i64 1 t277) = j_ := ⟨_, rfl⟩
            replace H : (if (Go.bits .and .i64 t281 (wrap64 ((ji30) - 1))) = t280 then (laws_FnChaseIsElimination.j1 kj9 l1) else (some false)) = some r := by first | (rw [hji30] at H; exact H) | (simp only [hji30] at H ⊢; exact H)
            (try rw [hji30] at A21)
            (try rw [hji30] at A22)
            have hji30_ : (IntKind.i64.wrap (1 * 2 ^ min t277.toNat 64)) = ji30 := hji30
            have hji30z : t277 ≤ 64 → (IntKind.i64.wrap (1 * 2 ^ t277.toNat)) = ji30 := shl_small hji30
            have hji30u : (IntKind.i64.wrap (2 ^ min t277.toNat 64)) = ji30 := by have h_ := hji30_; rw [Int.one_mul] at h_; exact h_
            have hji30v : t277 ≤ 64 → (IntKind.i64.wrap (2 ^ t277.toNat)) = ji30 := fun hle_ => by have h_ := hji30z hle_; rw [Int.one_mul] at h_; exact h_
            have hji30y : (wrap64 (1 * 2 ^ min t277.toNat 64)) = ji30 := (i64_w _).symm.trans hji30_
            have hji30x : t277 ≤ 64 → (wrap64 (1 * 2 ^ t277.toNat)) = ji30 := fun h_ => (i64_w _).symm.trans (hji30z h_)
            by_cases c31 : (Go.bits .and .i64 t281 (wrap64 ((ji30) - 1))) = t280
            ·
             rw [if_pos c31] at H
             have c31b0 : ((Go.bits .and .i64 t281 (wrap64 ((ji30) - 1))) == t280) = true := beq_iff_eq.mpr c31
             have c31b1 : ((Go.bits .and .i64 t281 (wrap64 ((ji30) - 1))) != t280) = false := bne_eq_false_iff_eq.mpr c31
             clear c31
             have H' := Aside0.mk H
             clear H
             go_wp2_with (first | ((with_reducible refine gate_callee (f := 20) rfl ?_); refine goesL_ (some 117) rfl rfl Try.func20 (by kernel_rfl) rfl #[.int .i64 t276, .int .i64 t277, .bool t278] rfl (by (try simp only [List.map_toArray, List.map_cons, List.map_nil]); first | done | rfl | (simp only [List.length_drop, List.length_take]; rfl)) ?_; (with_reducible refine (impl_GridGraph.calls kj9 t276 t277 t278 t289 t292 true _ A21.out).mono ?_); rintro e w32 ⟨v290, rfl, ho0, hb⟩; refine ⟨_, rfl, ?_⟩; have n0_ := Aside0.mk (Kd.R_lower ho0 (below_size (by repeat (first | (with_reducible first | exact HB.out | apply below_alloc | apply pw_below_drewN | apply below_drew1) | exact HB.out)))); have n1_ := Aside0.mk (below_step (by repeat (first | (with_reducible first | exact HB.out | apply below_alloc | apply pw_below_drewN | apply below_drew1) | exact HB.out)) hb); clear HB; have HO291 := n0_; have HB := n1_; clear n0_ n1_; (try clear hb); (try clear hb2); (try clear hk); (try clear hi); (try clear ho0)) | ((with_reducible refine gate_dst (N := 18) rfl ?_); (try (refine gate_guard (by rfl) ?_; dsimp only)); refine box_event ?hg (N := 18) ?hd (cs := #[.slice none 0 0, .bool false]) (t := 36) ?hr ?_; (case hd => rfl); (case hg => rfl); (case hr => first | (go_simp; done) | (go_simp; rfl)); intro gb294 hg w33 hbox hb; have n0_ := Aside0.mk (Kd.R_below (by (with_reducible repeat (first | apply Kd.R_alloc | apply Kd.R_drewN | apply Kd.R_drew)); exact HO291.out) hb); have n1_ := Aside0.mk (below_step (by repeat (first | (with_reducible first | exact HB.out | apply below_alloc | apply pw_below_drewN | apply below_drew1) | exact HB.out)) hb); have n2_ := Aside0.mk (hbox); have n3_ := Aside0.mk ((by rw [hg]; exact (below_size (by repeat (first | (with_reducible first | exact HB.out | apply below_alloc | apply pw_below_drewN | apply below_drew1) | exact HB.out))) : w.heap.size ≤ gb294)); have n4_ := Aside0.mk ((by rw [hg]; exact (below_size (by repeat (first | (with_reducible first | exact HB.out | apply below_alloc | apply pw_below_drewN | apply below_drew1) | exact HB.out))) : w.heap.size ≤ gb294)); clear HO291; clear HB; have HO291 := n0_; have HB := n1_; have BK294 := n2_; have GW294 := n3_; have GE294 := n4_; clear n0_ n1_ n2_ n3_ n4_; clear hb hbox hg; obtain ⟨Ao34, co34, eo34⟩ := Kd.R_slice HO291.out; subst eo34; have hcz35_0 : w33.cell? ⟨gb294, 0, none⟩ = some (.slice none 0 0) := (blk_cell BK294.out 0).trans rfl; have hcz35_1 : w33.cell? ⟨gb294, 1, none⟩ = some (.bool false) := (blk_cell BK294.out 1).trans rfl; have hfz35_0 := blk_frozen BK294.out 0; have hfz35_1 := blk_frozen BK294.out 1) | ((with_reducible refine gate_callee (f := 21) rfl ?_); refine goesL_ (some 124) rfl rfl Try.func21 (by kernel_rfl) rfl #[.agg #[.slice Ao34 t289.length co34, .bool t292], .int .i64 t279, .int .i64 t281] rfl (by (try simp only [List.map_toArray, List.map_cons, List.map_nil]); first | done | rfl | (simp only [List.length_drop, List.length_take]; rfl)) ?_; (with_reducible refine (impl_PressAll.calls kj9 _ _ t289 t292 t279 t281 t295 true _ ?side1 ?side2 A22.out).mono ?_); (case side1 => refine (Kd.R_reads' (e := 3) (base := w.heap.size) (ok := fun k_ => True) (n := t289.length) (c := co34) ?_).2.2; exact (by (with_reducible repeat (first | apply Kd.R_alloc | apply Kd.R_drewN | apply Kd.R_drew)); exact (Kd.R_mono (Kd.R_far (p := ⟨gb294, 1, none⟩) (Kd.R_far (p := ⟨gb294, 0, none⟩) (Kd.R_types HO291.out BK294.out (by decide)) (fun _ hk => hk.2) (.slice Ao34 t289.length co34)) (fun _ hk => hk.2) (.bool t292)) (fun _ h_ => h_.1)))); (case side2 => exact (Kd.R_reads' HO291.out).2.1); rintro e w36 ⟨rfl, hb⟩; refine ⟨_, rfl, ?_⟩; have n0_ := Aside0.mk (Kd.R_below (by (with_reducible repeat (first | apply Kd.R_alloc | apply Kd.R_drewN | apply Kd.R_drew)); exact (Kd.R_mono (Kd.R_far (p := ⟨gb294, 1, none⟩) (Kd.R_far (p := ⟨gb294, 0, none⟩) (Kd.R_types HO291.out BK294.out (by decide)) (fun _ hk => hk.2) (.slice Ao34 t289.length co34)) (fun _ hk => hk.2) (.bool t292)) (fun _ h_ => h_.1))) hb); have n1_ := Aside0.mk (blk_below (g := gb294) (o := .cells #[.slice Ao34 t289.length co34, .bool t292] 36 (0, 0)) (by (with_reducible repeat (first | refine blk_drewN ?_ _ | refine blk_drew ?_ | refine blk_alloc ?_ _)); refine blk_put (cs := #[.slice Ao34 t289.length co34, .bool false]) ?_ 1 _ rfl; (with_reducible repeat (first | refine blk_drewN ?_ _ | refine blk_drew ?_ | refine blk_alloc ?_ _)); refine blk_put (cs := #[.slice none 0 0, .bool false]) ?_ 0 _ rfl; (with_reducible repeat (first | refine blk_drewN ?_ _ | refine blk_drew ?_ | refine blk_alloc ?_ _)); exact BK294.out) hb); have n2_ := Aside0.mk (below_step (by repeat (first | (with_reducible first | exact HB.out | apply below_alloc | apply pw_below_drewN | apply below_drew1 | refine below_set ?_ GE294.out) | exact HB.out)) hb); clear HO291; clear BK294; clear HB; have HO291 := n0_; have BK294 := n1_; have HB := n2_; clear n0_ n1_ n2_; (try clear hb); (try clear hb2); (try clear hk); (try clear hi)))
             go_meet
             case rel => exact ⟨_, H', ⟨by have := HJ9.out; first | omega | exact Nat.le_refl _⟩, ⟨by repeat (first | (with_reducible first | exact HB.out | apply below_alloc | apply pw_below_drewN | apply below_drew1 | refine below_set ?_ GE294.out) | exact HB.out)⟩⟩
            ·
             rw [if_neg c31] at H
             have c31b0 : ((Go.bits .and .i64 t281 (wrap64 ((ji30) - 1))) == t280) = false := beq_eq_false_iff_ne.mpr c31
             have c31b1 : ((Go.bits .and .i64 t281 (wrap64 ((ji30) - 1))) != t280) = true := bne_iff_ne.mpr c31
             obtain rfl := Option.some.inj H
             go_wp2_with (first | ((with_reducible refine gate_callee (f := 20) rfl ?_); refine goesL_ (some 117) rfl rfl Try.func20 (by kernel_rfl) rfl #[.int .i64 t276, .int .i64 t277, .bool t278] rfl (by (try simp only [List.map_toArray, List.map_cons, List.map_nil]); first | done | rfl | (simp only [List.length_drop, List.length_take]; rfl)) ?_; (with_reducible refine (impl_GridGraph.calls kj9 t276 t277 t278 t289 t292 true _ A21.out).mono ?_); rintro e w37 ⟨v290, rfl, ho0, hb⟩; refine ⟨_, rfl, ?_⟩; have n0_ := Aside0.mk (Kd.R_lower ho0 (below_size (by repeat (first | (with_reducible first | exact HB.out | apply below_alloc | apply pw_below_drewN | apply below_drew1) | exact HB.out)))); have n1_ := Aside0.mk (below_step (by repeat (first | (with_reducible first | exact HB.out | apply below_alloc | apply pw_below_drewN | apply below_drew1) | exact HB.out)) hb); clear HB; have HO291 := n0_; have HB := n1_; clear n0_ n1_; (try clear hb); (try clear hb2); (try clear hk); (try clear hi); (try clear ho0)) | ((with_reducible refine gate_dst (N := 18) rfl ?_); (try (refine gate_guard (by rfl) ?_; dsimp only)); refine box_event ?hg (N := 18) ?hd (cs := #[.slice none 0 0, .bool false]) (t := 36) ?hr ?_; (case hd => rfl); (case hg => rfl); (case hr => first | (go_simp; done) | (go_simp; rfl)); intro gb294 hg w38 hbox hb; have n0_ := Aside0.mk (Kd.R_below (by (with_reducible repeat (first | apply Kd.R_alloc | apply Kd.R_drewN | apply Kd.R_drew)); exact HO291.out) hb); have n1_ := Aside0.mk (below_step (by repeat (first | (with_reducible first | exact HB.out | apply below_alloc | apply pw_below_drewN | apply below_drew1) | exact HB.out)) hb); have n2_ := Aside0.mk (hbox); have n3_ := Aside0.mk ((by rw [hg]; exact (below_size (by repeat (first | (with_reducible first | exact HB.out | apply below_alloc | apply pw_below_drewN | apply below_drew1) | exact HB.out))) : w.heap.size ≤ gb294)); have n4_ := Aside0.mk ((by rw [hg]; exact (below_size (by repeat (first | (with_reducible first | exact HB.out | apply below_alloc | apply pw_below_drewN | apply below_drew1) | exact HB.out))) : w.heap.size ≤ gb294)); clear HO291; clear HB; have HO291 := n0_; have HB := n1_; have BK294 := n2_; have GW294 := n3_; have GE294 := n4_; clear n0_ n1_ n2_ n3_ n4_; clear hb hbox hg; obtain ⟨Ao39, co39, eo39⟩ := Kd.R_slice HO291.out; subst eo39; have hcz40_0 : w38.cell? ⟨gb294, 0, none⟩ = some (.slice none 0 0) := (blk_cell BK294.out 0).trans rfl; have hcz40_1 : w38.cell? ⟨gb294, 1, none⟩ = some (.bool false) := (blk_cell BK294.out 1).trans rfl; have hfz40_0 := blk_frozen BK294.out 0; have hfz40_1 := blk_frozen BK294.out 1) | ((with_reducible refine gate_callee (f := 21) rfl ?_); refine goesL_ (some 124) rfl rfl Try.func21 (by kernel_rfl) rfl #[.agg #[.slice Ao39 t289.length co39, .bool t292], .int .i64 t279, .int .i64 t281] rfl (by (try simp only [List.map_toArray, List.map_cons, List.map_nil]); first | done | rfl | (simp only [List.length_drop, List.length_take]; rfl)) ?_; (with_reducible refine (impl_PressAll.calls kj9 _ _ t289 t292 t279 t281 t295 true _ ?side1 ?side2 A22.out).mono ?_); (case side1 => refine (Kd.R_reads' (e := 3) (base := w.heap.size) (ok := fun k_ => True) (n := t289.length) (c := co39) ?_).2.2; exact (by (with_reducible repeat (first | apply Kd.R_alloc | apply Kd.R_drewN | apply Kd.R_drew)); exact (Kd.R_mono (Kd.R_far (p := ⟨gb294, 1, none⟩) (Kd.R_far (p := ⟨gb294, 0, none⟩) (Kd.R_types HO291.out BK294.out (by decide)) (fun _ hk => hk.2) (.slice Ao39 t289.length co39)) (fun _ hk => hk.2) (.bool t292)) (fun _ h_ => h_.1)))); (case side2 => exact (Kd.R_reads' HO291.out).2.1); rintro e w41 ⟨rfl, hb⟩; refine ⟨_, rfl, ?_⟩; have n0_ := Aside0.mk (Kd.R_below (by (with_reducible repeat (first | apply Kd.R_alloc | apply Kd.R_drewN | apply Kd.R_drew)); exact (Kd.R_mono (Kd.R_far (p := ⟨gb294, 1, none⟩) (Kd.R_far (p := ⟨gb294, 0, none⟩) (Kd.R_types HO291.out BK294.out (by decide)) (fun _ hk => hk.2) (.slice Ao39 t289.length co39)) (fun _ hk => hk.2) (.bool t292)) (fun _ h_ => h_.1))) hb); have n1_ := Aside0.mk (blk_below (g := gb294) (o := .cells #[.slice Ao39 t289.length co39, .bool t292] 36 (0, 0)) (by (with_reducible repeat (first | refine blk_drewN ?_ _ | refine blk_drew ?_ | refine blk_alloc ?_ _)); refine blk_put (cs := #[.slice Ao39 t289.length co39, .bool false]) ?_ 1 _ rfl; (with_reducible repeat (first | refine blk_drewN ?_ _ | refine blk_drew ?_ | refine blk_alloc ?_ _)); refine blk_put (cs := #[.slice none 0 0, .bool false]) ?_ 0 _ rfl; (with_reducible repeat (first | refine blk_drewN ?_ _ | refine blk_drew ?_ | refine blk_alloc ?_ _)); exact BK294.out) hb); have n2_ := Aside0.mk (below_step (by repeat (first | (with_reducible first | exact HB.out | apply below_alloc | apply pw_below_drewN | apply below_drew1 | refine below_set ?_ GE294.out) | exact HB.out)) hb); clear HO291; clear BK294; clear HB; have HO291 := n0_; have BK294 := n1_; have HB := n2_; clear n0_ n1_ n2_; (try clear hb); (try clear hb2); (try clear hk); (try clear hi)))
             go_ret
             exact ⟨by first | rfl | (simp [errW_none, errW_some] <;> rfl) | (simp only [← hji25, ← hji27, ← hji30]; first | rfl | (simp [errW_none, errW_some] <;> rfl)) | (simp [*, errW_none, errW_some] <;> rfl), by repeat (first | (with_reducible first | exact HB.out | apply below_alloc | apply pw_below_drewN | apply below_drew1 | refine below_set ?_ GE294.out) | exact HB.out)⟩
           ·
            rw [if_neg c29] at H
            exact absurd H (by simp)
          ·
           rw [if_neg c28] at H
           have c28b0 : (t295 == (ji27)) = false := beq_eq_false_iff_ne.mpr c28
           have c28b1 : (t295 != (ji27)) = true := bne_iff_ne.mpr c28
           (first | rw [c28b0] | (simp only [i64_w, i32_w]; rw [c28b0]) | skip)
           obtain rfl := Option.some.inj H
           go_wp2_with (first | ((with_reducible refine gate_callee (f := 20) rfl ?_); refine goesL_ (some 117) rfl rfl Try.func20 (by kernel_rfl) rfl #[.int .i64 t276, .int .i64 t277, .bool t278] rfl (by (try simp only [List.map_toArray, List.map_cons, List.map_nil]); first | done | rfl | (simp only [List.length_drop, List.length_take]; rfl)) ?_; (with_reducible refine (impl_GridGraph.calls kj9 t276 t277 t278 t289 t292 true _ A21.out).mono ?_); rintro e w42 ⟨v290, rfl, ho0, hb⟩; refine ⟨_, rfl, ?_⟩; have n0_ := Aside0.mk (Kd.R_lower ho0 (below_size (by repeat (first | (with_reducible first | exact HB.out | apply below_alloc | apply pw_below_drewN | apply below_drew1) | exact HB.out)))); have n1_ := Aside0.mk (below_step (by repeat (first | (with_reducible first | exact HB.out | apply below_alloc | apply pw_below_drewN | apply below_drew1) | exact HB.out)) hb); clear HB; have HO291 := n0_; have HB := n1_; clear n0_ n1_; (try clear hb); (try clear hb2); (try clear hk); (try clear hi); (try clear ho0)) | ((with_reducible refine gate_dst (N := 18) rfl ?_); (try (refine gate_guard (by rfl) ?_; dsimp only)); refine box_event ?hg (N := 18) ?hd (cs := #[.slice none 0 0, .bool false]) (t := 36) ?hr ?_; (case hd => rfl); (case hg => rfl); (case hr => first | (go_simp; done) | (go_simp; rfl)); intro gb294 hg w43 hbox hb; have n0_ := Aside0.mk (Kd.R_below (by (with_reducible repeat (first | apply Kd.R_alloc | apply Kd.R_drewN | apply Kd.R_drew)); exact HO291.out) hb); have n1_ := Aside0.mk (below_step (by repeat (first | (with_reducible first | exact HB.out | apply below_alloc | apply pw_below_drewN | apply below_drew1) | exact HB.out)) hb); have n2_ := Aside0.mk (hbox); have n3_ := Aside0.mk ((by rw [hg]; exact (below_size (by repeat (first | (with_reducible first | exact HB.out | apply below_alloc | apply pw_below_drewN | apply below_drew1) | exact HB.out))) : w.heap.size ≤ gb294)); have n4_ := Aside0.mk ((by rw [hg]; exact (below_size (by repeat (first | (with_reducible first | exact HB.out | apply below_alloc | apply pw_below_drewN | apply below_drew1) | exact HB.out))) : w.heap.size ≤ gb294)); clear HO291; clear HB; have HO291 := n0_; have HB := n1_; have BK294 := n2_; have GW294 := n3_; have GE294 := n4_; clear n0_ n1_ n2_ n3_ n4_; clear hb hbox hg; obtain ⟨Ao44, co44, eo44⟩ := Kd.R_slice HO291.out; subst eo44; have hcz45_0 : w43.cell? ⟨gb294, 0, none⟩ = some (.slice none 0 0) := (blk_cell BK294.out 0).trans rfl; have hcz45_1 : w43.cell? ⟨gb294, 1, none⟩ = some (.bool false) := (blk_cell BK294.out 1).trans rfl; have hfz45_0 := blk_frozen BK294.out 0; have hfz45_1 := blk_frozen BK294.out 1) | ((with_reducible refine gate_callee (f := 21) rfl ?_); refine goesL_ (some 124) rfl rfl Try.func21 (by kernel_rfl) rfl #[.agg #[.slice Ao44 t289.length co44, .bool t292], .int .i64 t279, .int .i64 t281] rfl (by (try simp only [List.map_toArray, List.map_cons, List.map_nil]); first | done | rfl | (simp only [List.length_drop, List.length_take]; rfl)) ?_; (with_reducible refine (impl_PressAll.calls kj9 _ _ t289 t292 t279 t281 t295 true _ ?side1 ?side2 A22.out).mono ?_); (case side1 => refine (Kd.R_reads' (e := 3) (base := w.heap.size) (ok := fun k_ => True) (n := t289.length) (c := co44) ?_).2.2; exact (by (with_reducible repeat (first | apply Kd.R_alloc | apply Kd.R_drewN | apply Kd.R_drew)); exact (Kd.R_mono (Kd.R_far (p := ⟨gb294, 1, none⟩) (Kd.R_far (p := ⟨gb294, 0, none⟩) (Kd.R_types HO291.out BK294.out (by decide)) (fun _ hk => hk.2) (.slice Ao44 t289.length co44)) (fun _ hk => hk.2) (.bool t292)) (fun _ h_ => h_.1)))); (case side2 => exact (Kd.R_reads' HO291.out).2.1); rintro e w46 ⟨rfl, hb⟩; refine ⟨_, rfl, ?_⟩; have n0_ := Aside0.mk (Kd.R_below (by (with_reducible repeat (first | apply Kd.R_alloc | apply Kd.R_drewN | apply Kd.R_drew)); exact (Kd.R_mono (Kd.R_far (p := ⟨gb294, 1, none⟩) (Kd.R_far (p := ⟨gb294, 0, none⟩) (Kd.R_types HO291.out BK294.out (by decide)) (fun _ hk => hk.2) (.slice Ao44 t289.length co44)) (fun _ hk => hk.2) (.bool t292)) (fun _ h_ => h_.1))) hb); have n1_ := Aside0.mk (blk_below (g := gb294) (o := .cells #[.slice Ao44 t289.length co44, .bool t292] 36 (0, 0)) (by (with_reducible repeat (first | refine blk_drewN ?_ _ | refine blk_drew ?_ | refine blk_alloc ?_ _)); refine blk_put (cs := #[.slice Ao44 t289.length co44, .bool false]) ?_ 1 _ rfl; (with_reducible repeat (first | refine blk_drewN ?_ _ | refine blk_drew ?_ | refine blk_alloc ?_ _)); refine blk_put (cs := #[.slice none 0 0, .bool false]) ?_ 0 _ rfl; (with_reducible repeat (first | refine blk_drewN ?_ _ | refine blk_drew ?_ | refine blk_alloc ?_ _)); exact BK294.out) hb); have n2_ := Aside0.mk (below_step (by repeat (first | (with_reducible first | exact HB.out | apply below_alloc | apply pw_below_drewN | apply below_drew1 | refine below_set ?_ GE294.out) | exact HB.out)) hb); clear HO291; clear BK294; clear HB; have HO291 := n0_; have BK294 := n1_; have HB := n2_; clear n0_ n1_ n2_; (try clear hb); (try clear hb2); (try clear hk); (try clear hi)))
           go_ret
           exact ⟨by first | rfl | (simp [errW_none, errW_some] <;> rfl) | (simp only [← hji25, ← hji27]; first | rfl | (simp [errW_none, errW_some] <;> rfl)) | (simp [*, errW_none, errW_some] <;> rfl), by repeat (first | (with_reducible first | exact HB.out | apply below_alloc | apply pw_below_drewN | apply below_drew1 | refine below_set ?_ GE294.out) | exact HB.out)⟩
         ·
          rw [if_neg c26] at H
          exact absurd H (by simp)
        ·
         replace c24 := Bool.eq_false_iff.mpr c24
         subst c24
         have H1 : (some false) = some r := by rw [if_neg (show ¬ (false = true) by decide)] at H; exact H
         clear H
         have H := H1
         clear H1
         obtain rfl := Option.some.inj H
         go_wp2_with (first | ((with_reducible refine gate_callee (f := 20) rfl ?_); refine goesL_ (some 117) rfl rfl Try.func20 (by kernel_rfl) rfl #[.int .i64 t276, .int .i64 t277, .bool t278] rfl (by (try simp only [List.map_toArray, List.map_cons, List.map_nil]); first | done | rfl | (simp only [List.length_drop, List.length_take]; rfl)) ?_; (with_reducible refine (impl_GridGraph.calls kj9 t276 t277 t278 t289 t292 true _ A21.out).mono ?_); rintro e w47 ⟨v290, rfl, ho0, hb⟩; refine ⟨_, rfl, ?_⟩; have n0_ := Aside0.mk (Kd.R_lower ho0 (below_size (by repeat (first | (with_reducible first | exact HB.out | apply below_alloc | apply pw_below_drewN | apply below_drew1) | exact HB.out)))); have n1_ := Aside0.mk (below_step (by repeat (first | (with_reducible first | exact HB.out | apply below_alloc | apply pw_below_drewN | apply below_drew1) | exact HB.out)) hb); clear HB; have HO291 := n0_; have HB := n1_; clear n0_ n1_; (try clear hb); (try clear hb2); (try clear hk); (try clear hi); (try clear ho0)) | ((with_reducible refine gate_dst (N := 18) rfl ?_); (try (refine gate_guard (by rfl) ?_; dsimp only)); refine box_event ?hg (N := 18) ?hd (cs := #[.slice none 0 0, .bool false]) (t := 36) ?hr ?_; (case hd => rfl); (case hg => rfl); (case hr => first | (go_simp; done) | (go_simp; rfl)); intro gb294 hg w48 hbox hb; have n0_ := Aside0.mk (Kd.R_below (by (with_reducible repeat (first | apply Kd.R_alloc | apply Kd.R_drewN | apply Kd.R_drew)); exact HO291.out) hb); have n1_ := Aside0.mk (below_step (by repeat (first | (with_reducible first | exact HB.out | apply below_alloc | apply pw_below_drewN | apply below_drew1) | exact HB.out)) hb); have n2_ := Aside0.mk (hbox); have n3_ := Aside0.mk ((by rw [hg]; exact (below_size (by repeat (first | (with_reducible first | exact HB.out | apply below_alloc | apply pw_below_drewN | apply below_drew1) | exact HB.out))) : w.heap.size ≤ gb294)); have n4_ := Aside0.mk ((by rw [hg]; exact (below_size (by repeat (first | (with_reducible first | exact HB.out | apply below_alloc | apply pw_below_drewN | apply below_drew1) | exact HB.out))) : w.heap.size ≤ gb294)); clear HO291; clear HB; have HO291 := n0_; have HB := n1_; have BK294 := n2_; have GW294 := n3_; have GE294 := n4_; clear n0_ n1_ n2_ n3_ n4_; clear hb hbox hg; obtain ⟨Ao49, co49, eo49⟩ := Kd.R_slice HO291.out; subst eo49; have hcz50_0 : w48.cell? ⟨gb294, 0, none⟩ = some (.slice none 0 0) := (blk_cell BK294.out 0).trans rfl; have hcz50_1 : w48.cell? ⟨gb294, 1, none⟩ = some (.bool false) := (blk_cell BK294.out 1).trans rfl; have hfz50_0 := blk_frozen BK294.out 0; have hfz50_1 := blk_frozen BK294.out 1) | ((with_reducible refine gate_callee (f := 21) rfl ?_); refine goesL_ (some 124) rfl rfl Try.func21 (by kernel_rfl) rfl #[.agg #[.slice Ao49 t289.length co49, .bool t292], .int .i64 t279, .int .i64 t281] rfl (by (try simp only [List.map_toArray, List.map_cons, List.map_nil]); first | done | rfl | (simp only [List.length_drop, List.length_take]; rfl)) ?_; (with_reducible refine (impl_PressAll.calls kj9 _ _ t289 t292 t279 t281 t295 false _ ?side1 ?side2 A22.out).mono ?_); (case side1 => refine (Kd.R_reads' (e := 3) (base := w.heap.size) (ok := fun k_ => True) (n := t289.length) (c := co49) ?_).2.2; exact (by (with_reducible repeat (first | apply Kd.R_alloc | apply Kd.R_drewN | apply Kd.R_drew)); exact (Kd.R_mono (Kd.R_far (p := ⟨gb294, 1, none⟩) (Kd.R_far (p := ⟨gb294, 0, none⟩) (Kd.R_types HO291.out BK294.out (by decide)) (fun _ hk => hk.2) (.slice Ao49 t289.length co49)) (fun _ hk => hk.2) (.bool t292)) (fun _ h_ => h_.1)))); (case side2 => exact (Kd.R_reads' HO291.out).2.1); rintro e w51 ⟨rfl, hb⟩; refine ⟨_, rfl, ?_⟩; have n0_ := Aside0.mk (Kd.R_below (by (with_reducible repeat (first | apply Kd.R_alloc | apply Kd.R_drewN | apply Kd.R_drew)); exact (Kd.R_mono (Kd.R_far (p := ⟨gb294, 1, none⟩) (Kd.R_far (p := ⟨gb294, 0, none⟩) (Kd.R_types HO291.out BK294.out (by decide)) (fun _ hk => hk.2) (.slice Ao49 t289.length co49)) (fun _ hk => hk.2) (.bool t292)) (fun _ h_ => h_.1))) hb); have n1_ := Aside0.mk (blk_below (g := gb294) (o := .cells #[.slice Ao49 t289.length co49, .bool t292] 36 (0, 0)) (by (with_reducible repeat (first | refine blk_drewN ?_ _ | refine blk_drew ?_ | refine blk_alloc ?_ _)); refine blk_put (cs := #[.slice Ao49 t289.length co49, .bool false]) ?_ 1 _ rfl; (with_reducible repeat (first | refine blk_drewN ?_ _ | refine blk_drew ?_ | refine blk_alloc ?_ _)); refine blk_put (cs := #[.slice none 0 0, .bool false]) ?_ 0 _ rfl; (with_reducible repeat (first | refine blk_drewN ?_ _ | refine blk_drew ?_ | refine blk_alloc ?_ _)); exact BK294.out) hb); have n2_ := Aside0.mk (below_step (by repeat (first | (with_reducible first | exact HB.out | apply below_alloc | apply pw_below_drewN | apply below_drew1 | refine below_set ?_ GE294.out) | exact HB.out)) hb); clear HO291; clear BK294; clear HB; have HO291 := n0_; have BK294 := n1_; have HB := n2_; clear n0_ n1_ n2_; (try clear hb); (try clear hb2); (try clear hk); (try clear hi)))
         go_ret
         exact ⟨by first | rfl | (simp [errW_none, errW_some] <;> rfl) | (simp [*, errW_none, errW_some] <;> rfl), by repeat (first | (with_reducible first | exact HB.out | apply below_alloc | apply pw_below_drewN | apply below_drew1 | refine below_set ?_ GE294.out) | exact HB.out)⟩
       ·
        replace c23 := Bool.eq_false_iff.mpr c23
        subst c23
        have H1 : (some false) = some r := by rw [if_neg (show ¬ (false = true) by decide)] at H; exact H
        clear H
        have H := H1
        clear H1
        obtain rfl := Option.some.inj H
        go_wp2_with (first | ((with_reducible refine gate_callee (f := 20) rfl ?_); refine goesL_ (some 117) rfl rfl Try.func20 (by kernel_rfl) rfl #[.int .i64 t276, .int .i64 t277, .bool t278] rfl (by (try simp only [List.map_toArray, List.map_cons, List.map_nil]); first | done | rfl | (simp only [List.length_drop, List.length_take]; rfl)) ?_; (with_reducible refine (impl_GridGraph.calls kj9 t276 t277 t278 t289 t292 false _ A21.out).mono ?_); rintro e w52 ⟨v290, rfl, ho0, hb⟩; refine ⟨_, rfl, ?_⟩; have n0_ := Aside0.mk (Kd.R_lower ho0 (below_size (by repeat (first | (with_reducible first | exact HB.out | apply below_alloc | apply pw_below_drewN | apply below_drew1) | exact HB.out)))); have n1_ := Aside0.mk (below_step (by repeat (first | (with_reducible first | exact HB.out | apply below_alloc | apply pw_below_drewN | apply below_drew1) | exact HB.out)) hb); clear HB; have HO291 := n0_; have HB := n1_; clear n0_ n1_; (try clear hb); (try clear hb2); (try clear hk); (try clear hi); (try clear ho0)) | ((with_reducible refine gate_dst (N := 18) rfl ?_); (try (refine gate_guard (by rfl) ?_; dsimp only)); refine box_event ?hg (N := 18) ?hd (cs := #[.slice none 0 0, .bool false]) (t := 36) ?hr ?_; (case hd => rfl); (case hg => rfl); (case hr => first | (go_simp; done) | (go_simp; rfl)); intro gb294 hg w53 hbox hb; have n0_ := Aside0.mk (Kd.R_below (by (with_reducible repeat (first | apply Kd.R_alloc | apply Kd.R_drewN | apply Kd.R_drew)); exact HO291.out) hb); have n1_ := Aside0.mk (below_step (by repeat (first | (with_reducible first | exact HB.out | apply below_alloc | apply pw_below_drewN | apply below_drew1) | exact HB.out)) hb); have n2_ := Aside0.mk (hbox); have n3_ := Aside0.mk ((by rw [hg]; exact (below_size (by repeat (first | (with_reducible first | exact HB.out | apply below_alloc | apply pw_below_drewN | apply below_drew1) | exact HB.out))) : w.heap.size ≤ gb294)); have n4_ := Aside0.mk ((by rw [hg]; exact (below_size (by repeat (first | (with_reducible first | exact HB.out | apply below_alloc | apply pw_below_drewN | apply below_drew1) | exact HB.out))) : w.heap.size ≤ gb294)); clear HO291; clear HB; have HO291 := n0_; have HB := n1_; have BK294 := n2_; have GW294 := n3_; have GE294 := n4_; clear n0_ n1_ n2_ n3_ n4_; clear hb hbox hg; obtain ⟨Ao54, co54, eo54⟩ := Kd.R_slice HO291.out; subst eo54; have hcz55_0 : w53.cell? ⟨gb294, 0, none⟩ = some (.slice none 0 0) := (blk_cell BK294.out 0).trans rfl; have hcz55_1 : w53.cell? ⟨gb294, 1, none⟩ = some (.bool false) := (blk_cell BK294.out 1).trans rfl; have hfz55_0 := blk_frozen BK294.out 0; have hfz55_1 := blk_frozen BK294.out 1) | ((with_reducible refine gate_callee (f := 21) rfl ?_); refine goesL_ (some 124) rfl rfl Try.func21 (by kernel_rfl) rfl #[.agg #[.slice Ao54 t289.length co54, .bool t292], .int .i64 t279, .int .i64 t281] rfl (by (try simp only [List.map_toArray, List.map_cons, List.map_nil]); first | done | rfl | (simp only [List.length_drop, List.length_take]; rfl)) ?_; (with_reducible refine (impl_PressAll.calls kj9 _ _ t289 t292 t279 t281 t295 t296 _ ?side1 ?side2 A22.out).mono ?_); (case side1 => refine (Kd.R_reads' (e := 3) (base := w.heap.size) (ok := fun k_ => True) (n := t289.length) (c := co54) ?_).2.2; exact (by (with_reducible repeat (first | apply Kd.R_alloc | apply Kd.R_drewN | apply Kd.R_drew)); exact (Kd.R_mono (Kd.R_far (p := ⟨gb294, 1, none⟩) (Kd.R_far (p := ⟨gb294, 0, none⟩) (Kd.R_types HO291.out BK294.out (by decide)) (fun _ hk => hk.2) (.slice Ao54 t289.length co54)) (fun _ hk => hk.2) (.bool t292)) (fun _ h_ => h_.1)))); (case side2 => exact (Kd.R_reads' HO291.out).2.1); rintro e w56 ⟨rfl, hb⟩; refine ⟨_, rfl, ?_⟩; have n0_ := Aside0.mk (Kd.R_below (by (with_reducible repeat (first | apply Kd.R_alloc | apply Kd.R_drewN | apply Kd.R_drew)); exact (Kd.R_mono (Kd.R_far (p := ⟨gb294, 1, none⟩) (Kd.R_far (p := ⟨gb294, 0, none⟩) (Kd.R_types HO291.out BK294.out (by decide)) (fun _ hk => hk.2) (.slice Ao54 t289.length co54)) (fun _ hk => hk.2) (.bool t292)) (fun _ h_ => h_.1))) hb); have n1_ := Aside0.mk (blk_below (g := gb294) (o := .cells #[.slice Ao54 t289.length co54, .bool t292] 36 (0, 0)) (by (with_reducible repeat (first | refine blk_drewN ?_ _ | refine blk_drew ?_ | refine blk_alloc ?_ _)); refine blk_put (cs := #[.slice Ao54 t289.length co54, .bool false]) ?_ 1 _ rfl; (with_reducible repeat (first | refine blk_drewN ?_ _ | refine blk_drew ?_ | refine blk_alloc ?_ _)); refine blk_put (cs := #[.slice none 0 0, .bool false]) ?_ 0 _ rfl; (with_reducible repeat (first | refine blk_drewN ?_ _ | refine blk_drew ?_ | refine blk_alloc ?_ _)); exact BK294.out) hb); have n2_ := Aside0.mk (below_step (by repeat (first | (with_reducible first | exact HB.out | apply below_alloc | apply pw_below_drewN | apply below_drew1 | refine below_set ?_ GE294.out) | exact HB.out)) hb); clear HO291; clear BK294; clear HB; have HO291 := n0_; have BK294 := n1_; have HB := n2_; clear n0_ n1_ n2_; (try clear hb); (try clear hb2); (try clear hk); (try clear hi)))
        go_ret
        exact ⟨by first | rfl | (simp [errW_none, errW_some] <;> rfl) | (simp [*, errW_none, errW_some] <;> rfl), by repeat (first | (with_reducible first | exact HB.out | apply below_alloc | apply pw_below_drewN | apply below_drew1 | refine below_set ?_ GE294.out) | exact HB.out)⟩
      ·
       replace c20 := Bool.eq_false_iff.mpr c20
       subst c20
       have H1 : (laws_FnChaseIsElimination.j1 kj9 l1) = some r := by rw [if_neg (show ¬ (false = true) by decide)] at H; exact H
       clear H
       have H := H1
       clear H1
       have H' := Aside0.mk H
       clear H
       go_wp2
       go_meet
       case rel => exact ⟨_, H', ⟨by have := HJ9.out; first | omega | exact Nat.le_refl _⟩, ⟨by repeat (first | (with_reducible first | exact HB.out | apply below_alloc | apply pw_below_drewN | apply below_drew1) | exact HB.out)⟩⟩
     case rest =>
      clear HC19
      try clear c1
      try clear c2
      try clear p2
      try clear c3
      try clear c4
      try clear c6
      try clear p6
      try clear c11
      try clear c14
      try clear c14b0
      try clear c14b1
      try clear c14b2
      try clear c15
      try clear c15b0
      try clear c15b1
      try clear c16
      try clear c16b0
      try clear c16b1
      try clear c16b2
      try clear c17
      try clear c17b0
      try clear c17b1
      try clear c18
      try clear c19
      try clear c20
      try clear c21
      try clear c23
      try clear c24
      try clear c26
      try clear c26b0
      try clear c26b1
      try clear c28
      try clear c28b0
      try clear c28b1
      try clear c29
      try clear c29b0
      try clear c29b1
      try clear c31
      try clear c31b0
      try clear c31b1
      try clear hcz35_0
      try clear hcz35_1
      try clear hcz40_0
      try clear hcz40_1
      try clear hcz45_0
      try clear hcz45_1
      try clear hcz50_0
      try clear hcz50_1
      try clear hcz55_0
      try clear hcz55_1
      try clear hfz35_0
      try clear hfz35_1
      try clear hfz40_0
      try clear hfz40_1
      try clear hfz45_0
      try clear hfz45_1
      try clear hfz50_0
      try clear hfz50_1
      try clear hfz55_0
      try clear hfz55_1
      try clear p2
      obtain ⟨kq, HA, HJ18, HB⟩ := hcut
      cases kq with
      | zero => exact absurd HA.out (by simp [laws_FnChaseIsElimination.j1])
      | succ kj18 =>
       have H := HA.out
       clear HA
       simp only [laws_FnChaseIsElimination.j1] at H
       replace H := Option.bind_eq_some_iff.mp H
       obtain ⟨⟨t297, t298, t299, t300⟩, A570, H⟩ := H
       replace H : ((impl_SolveByChase.f kj18 t297 t298 t299 t300).bind fun bt301 => ((spec_SolveByChase.f kj18 t297 t298 t299 t300).bind fun bt303 => ((impl_FirstRows.f kj18 t297 t298 t299 t300).bind fun bt305 => ((spec_FirstRows.f kj18 t297 t298 t299 t300).bind fun bt309 => (if (bt301.2 != bt303.2) = true then (laws_FnChaseIsElimination.j2 kj18 t297 t298 t299 t300 bt301.1 bt301.2 bt305.1 bt305.2 true) else (if bt301.1 = bt303.1 then (if (bt305.2 != bt309.2) = true then (laws_FnChaseIsElimination.j2 kj18 t297 t298 t299 t300 bt301.1 bt301.2 bt305.1 bt305.2 true) else ((laws_hSame.f kj18 bt305.1 bt309.1).bind fun t313 => (if t313 = true then (laws_FnChaseIsElimination.j2 kj18 t297 t298 t299 t300 bt301.1 bt301.2 bt305.1 bt305.2 (bt301.2 != (decide ((bt305.1.length : Int) > 0)))) else (laws_FnChaseIsElimination.j2 kj18 t297 t298 t299 t300 bt301.1 bt301.2 bt305.1 bt305.2 true)))) else (laws_FnChaseIsElimination.j2 kj18 t297 t298 t299 t300 bt301.1 bt301.2 bt305.1 bt305.2 true))))))) = some r := H
       have A57 := Aside0.mk A570
       clear A570
       replace H := Option.bind_eq_some_iff.mp H
       obtain ⟨⟨t301, t302⟩, A580, H⟩ := H
       replace H : ((spec_SolveByChase.f kj18 t297 t298 t299 t300).bind fun bt303 => ((impl_FirstRows.f kj18 t297 t298 t299 t300).bind fun bt305 => ((spec_FirstRows.f kj18 t297 t298 t299 t300).bind fun bt309 => (if (t302 != bt303.2) = true then (laws_FnChaseIsElimination.j2 kj18 t297 t298 t299 t300 t301 t302 bt305.1 bt305.2 true) else (if t301 = bt303.1 then (if (bt305.2 != bt309.2) = true then (laws_FnChaseIsElimination.j2 kj18 t297 t298 t299 t300 t301 t302 bt305.1 bt305.2 true) else ((laws_hSame.f kj18 bt305.1 bt309.1).bind fun t313 => (if t313 = true then (laws_FnChaseIsElimination.j2 kj18 t297 t298 t299 t300 t301 t302 bt305.1 bt305.2 (t302 != (decide ((bt305.1.length : Int) > 0)))) else (laws_FnChaseIsElimination.j2 kj18 t297 t298 t299 t300 t301 t302 bt305.1 bt305.2 true)))) else (laws_FnChaseIsElimination.j2 kj18 t297 t298 t299 t300 t301 t302 bt305.1 bt305.2 true)))))) = some r := H
       have A58 := Aside0.mk A580
       clear A580
       replace H := Option.bind_eq_some_iff.mp H
       obtain ⟨⟨t303, t304⟩, A590, H⟩ := H
       replace H : ((impl_FirstRows.f kj18 t297 t298 t299 t300).bind fun bt305 => ((spec_FirstRows.f kj18 t297 t298 t299 t300).bind fun bt309 => (if (t302 != t304) = true then (laws_FnChaseIsElimination.j2 kj18 t297 t298 t299 t300 t301 t302 bt305.1 bt305.2 true) else (if t301 = t303 then (if (bt305.2 != bt309.2) = true then (laws_FnChaseIsElimination.j2 kj18 t297 t298 t299 t300 t301 t302 bt305.1 bt305.2 true) else ((laws_hSame.f kj18 bt305.1 bt309.1).bind fun t313 => (if t313 = true then (laws_FnChaseIsElimination.j2 kj18 t297 t298 t299 t300 t301 t302 bt305.1 bt305.2 (t302 != (decide ((bt305.1.length : Int) > 0)))) else (laws_FnChaseIsElimination.j2 kj18 t297 t298 t299 t300 t301 t302 bt305.1 bt305.2 true)))) else (laws_FnChaseIsElimination.j2 kj18 t297 t298 t299 t300 t301 t302 bt305.1 bt305.2 true))))) = some r := H
       have A59 := Aside0.mk A590
       clear A590
       replace H := Option.bind_eq_some_iff.mp H
       obtain ⟨⟨t305, t306⟩, A600, H⟩ := H
       replace H : ((spec_FirstRows.f kj18 t297 t298 t299 t300).bind fun bt309 => (if (t302 != t304) = true then (laws_FnChaseIsElimination.j2 kj18 t297 t298 t299 t300 t301 t302 t305 t306 true) else (if t301 = t303 then (if (t306 != bt309.2) = true then (laws_FnChaseIsElimination.j2 kj18 t297 t298 t299 t300 t301 t302 t305 t306 true) else ((laws_hSame.f kj18 t305 bt309.1).bind fun t313 => (if t313 = true then (laws_FnChaseIsElimination.j2 kj18 t297 t298 t299 t300 t301 t302 t305 t306 (t302 != (decide ((t305.length : Int) > 0)))) else (laws_FnChaseIsElimination.j2 kj18 t297 t298 t299 t300 t301 t302 t305 t306 true)))) else (laws_FnChaseIsElimination.j2 kj18 t297 t298 t299 t300 t301 t302 t305 t306 true)))) = some r := H
       have A60 := Aside0.mk A600
       clear A600
       replace H := Option.bind_eq_some_iff.mp H
       obtain ⟨⟨t309, t310⟩, A610, H⟩ := H
       replace H : (if (t302 != t304) = true then (laws_FnChaseIsElimination.j2 kj18 t297 t298 t299 t300 t301 t302 t305 t306 true) else (if t301 = t303 then (if (t306 != t310) = true then (laws_FnChaseIsElimination.j2 kj18 t297 t298 t299 t300 t301 t302 t305 t306 true) else ((laws_hSame.f kj18 t305 t309).bind fun t313 => (if t313 = true then (laws_FnChaseIsElimination.j2 kj18 t297 t298 t299 t300 t301 t302 t305 t306 (t302 != (decide ((t305.length : Int) > 0)))) else (laws_FnChaseIsElimination.j2 kj18 t297 t298 t299 t300 t301 t302 t305 t306 true)))) else (laws_FnChaseIsElimination.j2 kj18 t297 t298 t299 t300 t301 t302 t305 t306 true))) = some r := H
       have A61 := Aside0.mk A610
       clear A610
       have HC62 := Aside0.mk H
       clear H
       go_upto_region 20 with (first | ((with_reducible refine gate_callee (f := 22) rfl ?_); refine goesL_ (some 154) rfl rfl Try.func22 (by kernel_rfl) rfl #[.slice A1 l1.length c1] rfl (by (try simp only [List.map_toArray, List.map_cons, List.map_nil]); first | done | rfl | (simp only [List.length_drop, List.length_take]; rfl)) ?_; (with_reducible refine (spec_DrawSolveByChase.calls _ _ l1 t297 t298 t299 t300 _ ?side1 ?side2 A57.out).mono ?_); (case side1 => repeat (first | exact (Kd.C_below HR1.out HB.out) | (with_reducible refine Kd.C_alloc ?_ _) | (with_reducible refine Kd.C_drewN ?_ _) | (with_reducible refine Kd.C_drew ?_))); (case side2 => exact HC1.out); rintro e w63 ⟨rfl, hb⟩; refine ⟨_, rfl, ?_⟩; have n0_ := Aside0.mk (below_step (by repeat (first | (with_reducible first | exact HB.out | apply below_alloc | apply pw_below_drewN | apply below_drew1) | exact HB.out)) hb); clear HB; have HB := n0_; clear n0_; (try clear hb); (try clear hb2); (try clear hk); (try clear hi)) | ((with_reducible refine gate_callee (f := 23) rfl ?_); refine goesL_ (some 164) rfl rfl Try.func23 (by kernel_rfl) rfl #[.int .i64 t297, .int .i64 t298, .bool t299, .int .i64 t300] rfl (by (try simp only [List.map_toArray, List.map_cons, List.map_nil]); first | done | rfl | (simp only [List.length_drop, List.length_take]; rfl)) ?_; (with_reducible refine (impl_SolveByChase.calls kj18 t297 t298 t299 t300 t301 t302 _ A58.out).mono ?_); rintro e w64 ⟨rfl, hb⟩; refine ⟨_, rfl, ?_⟩; have n0_ := Aside0.mk (below_step (by repeat (first | (with_reducible first | exact HB.out | apply below_alloc | apply pw_below_drewN | apply below_drew1) | exact HB.out)) hb); clear HB; have HB := n0_; clear n0_; (try clear hb); (try clear hb2); (try clear hk); (try clear hi)) | ((with_reducible refine gate_callee (f := 24) rfl ?_); refine goesL_ (some 172) rfl rfl Try.func24 (by kernel_rfl) rfl #[.int .i64 t297, .int .i64 t298, .bool t299, .int .i64 t300] rfl (by (try simp only [List.map_toArray, List.map_cons, List.map_nil]); first | done | rfl | (simp only [List.length_drop, List.length_take]; rfl)) ?_; (with_reducible refine (spec_SolveByChase.calls kj18 t297 t298 t299 t300 t303 t304 _ A59.out).mono ?_); rintro e w65 ⟨rfl, hb⟩; refine ⟨_, rfl, ?_⟩; have n0_ := Aside0.mk (below_step (by repeat (first | (with_reducible first | exact HB.out | apply below_alloc | apply pw_below_drewN | apply below_drew1) | exact HB.out)) hb); clear HB; have HB := n0_; clear n0_; (try clear hb); (try clear hb2); (try clear hk); (try clear hi)) | ((with_reducible refine gate_callee (f := 25) rfl ?_); refine goesL_ (some 180) rfl rfl Try.func25 (by kernel_rfl) rfl #[.int .i64 t297, .int .i64 t298, .bool t299, .int .i64 t300] rfl (by (try simp only [List.map_toArray, List.map_cons, List.map_nil]); first | done | rfl | (simp only [List.length_drop, List.length_take]; rfl)) ?_; (with_reducible refine (impl_FirstRows.calls kj18 t297 t298 t299 t300 t305 t306 _ A60.out).mono ?_); rintro e w66 ⟨v307, rfl, ho0, hb⟩; refine ⟨_, rfl, ?_⟩; have n0_ := Aside0.mk (Kd.R_lower ho0 (below_size (by repeat (first | (with_reducible first | exact HB.out | apply below_alloc | apply pw_below_drewN | apply below_drew1) | exact HB.out)))); have n1_ := Aside0.mk (below_step (by repeat (first | (with_reducible first | exact HB.out | apply below_alloc | apply pw_below_drewN | apply below_drew1) | exact HB.out)) hb); clear HB; have HO308 := n0_; have HB := n1_; clear n0_ n1_; (try clear hb); (try clear hb2); (try clear hk); (try clear hi); (try clear ho0)) | ((with_reducible refine gate_callee (f := 26) rfl ?_); refine goesL_ (some 188) rfl rfl Try.func26 (by kernel_rfl) rfl #[.int .i64 t297, .int .i64 t298, .bool t299, .int .i64 t300] rfl (by (try simp only [List.map_toArray, List.map_cons, List.map_nil]); first | done | rfl | (simp only [List.length_drop, List.length_take]; rfl)) ?_; (with_reducible refine (spec_FirstRows.calls kj18 t297 t298 t299 t300 t309 t310 _ A61.out).mono ?_); rintro e w67 ⟨v311, rfl, ho0, hb⟩; refine ⟨_, rfl, ?_⟩; have n0_ := Aside0.mk (Kd.R_elder' (by (with_reducible repeat (first | apply Kd.R_alloc | apply Kd.R_drewN | apply Kd.R_drew)); exact HO308.out) (Kd.R_base ho0) hb); have n1_ := Aside0.mk (Kd.R_lower (Kd.R_new' ho0 (Kd.R_lt (by (with_reducible repeat (first | apply Kd.R_alloc | apply Kd.R_drewN | apply Kd.R_drew)); exact HO308.out))) (below_size (by repeat (first | (with_reducible first | exact HB.out | apply below_alloc | apply pw_below_drewN | apply below_drew1) | exact HB.out)))); have n2_ := Aside0.mk (below_step (by repeat (first | (with_reducible first | exact HB.out | apply below_alloc | apply pw_below_drewN | apply below_drew1) | exact HB.out)) hb); clear HO308; clear HB; have HO308 := n0_; have HO312 := n1_; have HB := n2_; clear n0_ n1_ n2_; (try clear hb); (try clear hb2); (try clear hk); (try clear hi); (try clear ho0)))
       (try simp only [Act.put, List.setIfInBounds_toArray, List.set_cons_zero, List.set_cons_succ])
       go_cut [216] (fun v216 wc => ∃ (kq : Nat) (x216_61 : Bool), v216 = .bool x216_61 ∧ Aside0 (laws_FnChaseIsElimination.j2 kq t297 t298 t299 t300 t301 t302 t305 t306 x216_61 = some r) ∧ Aside0 (kq ≤ kj18) ∧ Aside0 (Kd.R (Kd.int .i64) 3 wc w.heap.size (fun _ => True) v307 t305) ∧ Aside0 (Below w.heap.size w wc))
       case first => as_aux_lemma =>
        have H := HC62.out
        clear HC62
        by_cases c68 : (t302 != t304) = true
        ·
         rw [if_pos c68] at H
         have c68b0 : (t302 != t304) = true := c68
         (try (have c68b1 : decide (t302 = t304) = false := by simpa using c68))
         (try (have c68b2 : (t302 == t304) = false := by simpa using c68))
         (try (have c68b3 : ¬ (t302 = t304) := by simpa using c68))
         clear c68
         (first | rw [c68b0] | (simp only [i64_w, i32_w]; rw [c68b0]) | skip)
         have H' := Aside0.mk H
         clear H
         go_wp2
         go_meet
         case rel => exact ⟨_, (true), (by first | rfl | (simp; done) | (simp [*]; done)), H', ⟨by have := HJ9.out; have := HJ18.out; first | omega | exact Nat.le_refl _⟩, ⟨by (with_reducible repeat (first | apply Kd.R_alloc | apply Kd.R_drewN | apply Kd.R_drew)); exact Kd.R_mono HO308.out (fun _ hk => trivial)⟩, ⟨by repeat (first | (with_reducible first | exact HB.out | apply below_alloc | apply pw_below_drewN | apply below_drew1) | exact HB.out)⟩⟩
        ·
         rw [if_neg c68] at H
         have c68b0 : (t302 != t304) = false := by simpa using c68
         (try (have c68b1 : decide (t302 = t304) = true := by simpa using c68))
         (try (have c68b2 : (t302 == t304) = true := by simpa using c68))
         clear c68
         (first | rw [c68b0] | (simp only [i64_w, i32_w]; rw [c68b0]) | skip)
         by_cases c69 : t301 = t303
         ·
          rw [if_pos c69] at H
          have c69b0 : (t301 == t303) = true := beq_iff_eq.mpr c69
          have c69b1 : (t301 != t303) = false := bne_eq_false_iff_eq.mpr c69
          clear c69
          by_cases c70 : (t306 != t310) = true
          ·
           rw [if_pos c70] at H
           have c70b0 : (t306 != t310) = true := c70
           (try (have c70b1 : decide (t306 = t310) = false := by simpa using c70))
           (try (have c70b2 : (t306 == t310) = false := by simpa using c70))
           (try (have c70b3 : ¬ (t306 = t310) := by simpa using c70))
           clear c70
           have H' := Aside0.mk H
           clear H
           go_wp2
           go_meet
           case rel => exact ⟨_, (true), (by first | rfl | (simp; done) | (simp [*]; done)), H', ⟨by have := HJ9.out; have := HJ18.out; first | omega | exact Nat.le_refl _⟩, ⟨by (with_reducible repeat (first | apply Kd.R_alloc | apply Kd.R_drewN | apply Kd.R_drew)); exact Kd.R_mono HO308.out (fun _ hk => trivial)⟩, ⟨by repeat (first | (with_reducible first | exact HB.out | apply below_alloc | apply pw_below_drewN | apply below_drew1) | exact HB.out)⟩⟩
          ·
           rw [if_neg c70] at H
           have c70b0 : (t306 != t310) = false := by simpa using c70
           (try (have c70b1 : decide (t306 = t310) = true := by simpa using c70))
           (try (have c70b2 : (t306 == t310) = true := by simpa using c70))
           clear c70
           replace H := Option.bind_eq_some_iff.mp H
           obtain ⟨t313, A710, H⟩ := H
           replace H : (if t313 = true then (laws_FnChaseIsElimination.j2 kj18 t297 t298 t299 t300 t301 t302 t305 t306 (t302 != (decide ((t305.length : Int) > 0)))) else (laws_FnChaseIsElimination.j2 kj18 t297 t298 t299 t300 t301 t302 t305 t306 true)) = some r := H
           have A71 := Aside0.mk A710
           clear A710
           by_cases c72 : t313 = true
           ·
            subst c72
            have H1 : (laws_FnChaseIsElimination.j2 kj18 t297 t298 t299 t300 t301 t302 t305 t306 (t302 != (decide ((t305.length : Int) > 0)))) = some r := by rw [if_pos rfl] at H; exact H
            clear H
            have H := H1
            clear H1
            have H' := Aside0.mk H
            clear H
            obtain ⟨Ao73, co73, eo73⟩ := Kd.R_slice HO308.out
            subst eo73
            obtain ⟨Ao74, co74, eo74⟩ := Kd.R_slice HO312.out
            subst eo74
            go_wp2_with (first | (go_at_call 10; (with_reducible refine (laws_hSame.calls kj18 _ _ t305 _ _ t309 true _ ?side1 ?side2 ?side3 ?side4 A71.out).mono ?_); (case side1 => repeat (first | exact (Kd.R_reads' HO308.out).2.2 | (with_reducible refine Kd.C_alloc ?_ _) | (with_reducible refine Kd.C_drewN ?_ _) | (with_reducible refine Kd.C_drew ?_))); (case side2 => exact (Kd.R_reads' HO308.out).2.1); (case side3 => repeat (first | exact (Kd.R_reads' HO312.out).2.2 | (with_reducible refine Kd.C_alloc ?_ _) | (with_reducible refine Kd.C_drewN ?_ _) | (with_reducible refine Kd.C_drew ?_))); (case side4 => exact (Kd.R_reads' HO312.out).2.1); rintro e w' ⟨rfl, ⟨nd, rfl⟩⟩))
            go_meet
            case rel => exact ⟨_, ((t302 != (decide ((t305.length : Int) > 0)))), (by first | rfl | (simp; done) | (simp [*]; done) | (simp; cases t302 <;> simp)), H', ⟨by have := HJ9.out; have := HJ18.out; first | omega | exact Nat.le_refl _⟩, ⟨by (with_reducible repeat (first | apply Kd.R_alloc | apply Kd.R_drewN | apply Kd.R_drew)); exact Kd.R_mono HO308.out (fun _ hk => trivial)⟩, ⟨by repeat (first | (with_reducible first | exact HB.out | apply below_alloc | apply pw_below_drewN | apply below_drew1) | exact HB.out)⟩⟩
           ·
            replace c72 := Bool.eq_false_iff.mpr c72
            subst c72
            have H1 : (laws_FnChaseIsElimination.j2 kj18 t297 t298 t299 t300 t301 t302 t305 t306 true) = some r := by rw [if_neg (show ¬ (false = true) by decide)] at H; exact H
            clear H
            have H := H1
            clear H1
            have H' := Aside0.mk H
            clear H
            obtain ⟨Ao75, co75, eo75⟩ := Kd.R_slice HO308.out
            subst eo75
            obtain ⟨Ao76, co76, eo76⟩ := Kd.R_slice HO312.out
            subst eo76
            go_wp2_with (first | (go_at_call 10; (with_reducible refine (laws_hSame.calls kj18 _ _ t305 _ _ t309 false _ ?side1 ?side2 ?side3 ?side4 A71.out).mono ?_); (case side1 => repeat (first | exact (Kd.R_reads' HO308.out).2.2 | (with_reducible refine Kd.C_alloc ?_ _) | (with_reducible refine Kd.C_drewN ?_ _) | (with_reducible refine Kd.C_drew ?_))); (case side2 => exact (Kd.R_reads' HO308.out).2.1); (case side3 => repeat (first | exact (Kd.R_reads' HO312.out).2.2 | (with_reducible refine Kd.C_alloc ?_ _) | (with_reducible refine Kd.C_drewN ?_ _) | (with_reducible refine Kd.C_drew ?_))); (case side4 => exact (Kd.R_reads' HO312.out).2.1); rintro e w' ⟨rfl, ⟨nd, rfl⟩⟩))
            go_meet
            case rel => exact ⟨_, (true), (by first | rfl | (simp; done) | (simp [*]; done)), H', ⟨by have := HJ9.out; have := HJ18.out; first | omega | exact Nat.le_refl _⟩, ⟨by (with_reducible repeat (first | apply Kd.R_alloc | apply Kd.R_drewN | apply Kd.R_drew)); exact Kd.R_mono HO308.out (fun _ hk => trivial)⟩, ⟨by repeat (first | (with_reducible first | exact HB.out | apply below_alloc | apply pw_below_drewN | apply below_drew1) | exact HB.out)⟩⟩
         ·
          rw [if_neg c69] at H
          have c69b0 : (t301 == t303) = false := beq_eq_false_iff_ne.mpr c69
          have c69b1 : (t301 != t303) = true := bne_iff_ne.mpr c69
          have H' := Aside0.mk H
          clear H
          go_wp2
          go_meet
          case rel => exact ⟨_, (true), (by first | rfl | (simp; done) | (simp [*]; done)), H', ⟨by have := HJ9.out; have := HJ18.out; first | omega | exact Nat.le_refl _⟩, ⟨by (with_reducible repeat (first | apply Kd.R_alloc | apply Kd.R_drewN | apply Kd.R_drew)); exact Kd.R_mono HO308.out (fun _ hk => trivial)⟩, ⟨by repeat (first | (with_reducible first | exact HB.out | apply below_alloc | apply pw_below_drewN | apply below_drew1) | exact HB.out)⟩⟩
       case rest =>
        clear HC62
        try clear c1
        try clear c2
        try clear p2
        try clear c3
        try clear c4
        try clear c6
        try clear p6
        try clear c7
        try clear c11
        try clear c14
        try clear c14b0
        try clear c14b1
        try clear c14b2
        try clear c15
        try clear c15b0
        try clear c15b1
        try clear c16
        try clear c16b0
        try clear c16b1
        try clear c16b2
        try clear c17
        try clear c17b0
        try clear c17b1
        try clear c18
        try clear c19
        try clear c20
        try clear c21
        try clear c22
        try clear c23
        try clear c24
        try clear c25
        try clear c26
        try clear c26b0
        try clear c26b1
        try clear c28
        try clear c28b0
        try clear c28b1
        try clear c29
        try clear c29b0
        try clear c29b1
        try clear c31
        try clear c31b0
        try clear c31b1
        try clear p64
        try clear c68
        try clear c68b0
        try clear c68b1
        try clear c68b2
        try clear c69
        try clear c69b0
        try clear c69b1
        try clear c70
        try clear c70b0
        try clear c70b1
        try clear c70b2
        try clear c72
        try clear hcz35_0
        try clear hcz35_1
        try clear hcz40_0
        try clear hcz40_1
        try clear hcz45_0
        try clear hcz45_1
        try clear hcz50_0
        try clear hcz50_1
        try clear hcz55_0
        try clear hcz55_1
        try clear hfz35_0
        try clear hfz35_1
        try clear hfz40_0
        try clear hfz40_1
        try clear hfz45_0
        try clear hfz45_1
        try clear hfz50_0
        try clear hfz50_1
        try clear hfz55_0
        try clear hfz55_1
        try clear p2
        try clear p6
        obtain ⟨kq, x216_61, rfl, HA, HJ61, HO_30, HB⟩ := hcut
        cases kq with
        | zero => exact absurd HA.out (by simp [laws_FnChaseIsElimination.j2])
        | succ kj61 =>
         have H := HA.out
         clear HA
         simp only [laws_FnChaseIsElimination.j2] at H
         by_cases c77 : x216_61 = true
         ·
          subst c77
          have H1 : (some false) = some r := by rw [if_pos rfl] at H; exact H
          clear H
          have H := H1
          clear H1
          obtain rfl := Option.some.inj H
          go_wp2
          go_ret
          exact ⟨by first | rfl | (simp [errW_none, errW_some] <;> rfl) | (simp [*, errW_none, errW_some] <;> rfl), by repeat (first | (with_reducible first | exact HB.out | apply below_alloc | apply pw_below_drewN | apply below_drew1) | exact HB.out)⟩
         ·
          replace c77 := Bool.eq_false_iff.mpr c77
          subst c77
          have H1 : (if t306 = true then ((impl_GridGraph.f kj61 t297 t298 t299).bind fun bt314 => ((impl_CanSolve.f bt314.1 bt314.2.1 t300).bind fun bt320 => ((impl_CountSolutions.f bt314.1 bt314.2.1 t300).bind fun bt322 => (if bt314.2.2 = true then (if bt320.2 = true then (if (bt320.1 != t302) = true then (laws_FnChaseIsElimination.j3 kj61 t300 t301 t302 true bt314.1 bt314.2.1) else (if bt322.2 = true then (laws_FnChaseIsElimination.j3 kj61 t300 t301 t302 (bt322.1 != (t305.length : Int)) bt314.1 bt314.2.1) else (laws_FnChaseIsElimination.j3 kj61 t300 t301 t302 true bt314.1 bt314.2.1))) else (laws_FnChaseIsElimination.j3 kj61 t300 t301 t302 true bt314.1 bt314.2.1)) else (laws_FnChaseIsElimination.j3 kj61 t300 t301 t302 true bt314.1 bt314.2.1))))) else (some true)) = some r := by rw [if_neg (show ¬ (false = true) by decide)] at H; exact H
          clear H
          have H := H1
          clear H1
          by_cases c78 : t306 = true
          ·
           subst c78
           have H1 : ((impl_GridGraph.f kj61 t297 t298 t299).bind fun bt314 => ((impl_CanSolve.f bt314.1 bt314.2.1 t300).bind fun bt320 => ((impl_CountSolutions.f bt314.1 bt314.2.1 t300).bind fun bt322 => (if bt314.2.2 = true then (if bt320.2 = true then (if (bt320.1 != t302) = true then (laws_FnChaseIsElimination.j3 kj61 t300 t301 t302 true bt314.1 bt314.2.1) else (if bt322.2 = true then (laws_FnChaseIsElimination.j3 kj61 t300 t301 t302 (bt322.1 != (t305.length : Int)) bt314.1 bt314.2.1) else (laws_FnChaseIsElimination.j3 kj61 t300 t301 t302 true bt314.1 bt314.2.1))) else (laws_FnChaseIsElimination.j3 kj61 t300 t301 t302 true bt314.1 bt314.2.1)) else (laws_FnChaseIsElimination.j3 kj61 t300 t301 t302 true bt314.1 bt314.2.1))))) = some r := by rw [if_pos rfl] at H; exact H
           clear H
           have H := H1
           clear H1
           replace H := Option.bind_eq_some_iff.mp H
           obtain ⟨⟨t314, t317, t318⟩, A790, H⟩ := H
           replace H : ((impl_CanSolve.f t314 t317 t300).bind fun bt320 => ((impl_CountSolutions.f t314 t317 t300).bind fun bt322 => (if t318 = true then (if bt320.2 = true then (if (bt320.1 != t302) = true then (laws_FnChaseIsElimination.j3 kj61 t300 t301 t302 true t314 t317) else (if bt322.2 = true then (laws_FnChaseIsElimination.j3 kj61 t300 t301 t302 (bt322.1 != (t305.length : Int)) t314 t317) else (laws_FnChaseIsElimination.j3 kj61 t300 t301 t302 true t314 t317))) else (laws_FnChaseIsElimination.j3 kj61 t300 t301 t302 true t314 t317)) else (laws_FnChaseIsElimination.j3 kj61 t300 t301 t302 true t314 t317)))) = some r := H
           have A79 := Aside0.mk A790
           clear A790
           replace H := Option.bind_eq_some_iff.mp H
           obtain ⟨⟨t320, t321⟩, A800, H⟩ := H
           replace H : ((impl_CountSolutions.f t314 t317 t300).bind fun bt322 => (if t318 = true then (if t321 = true then (if (t320 != t302) = true then (laws_FnChaseIsElimination.j3 kj61 t300 t301 t302 true t314 t317) else (if bt322.2 = true then (laws_FnChaseIsElimination.j3 kj61 t300 t301 t302 (bt322.1 != (t305.length : Int)) t314 t317) else (laws_FnChaseIsElimination.j3 kj61 t300 t301 t302 true t314 t317))) else (laws_FnChaseIsElimination.j3 kj61 t300 t301 t302 true t314 t317)) else (laws_FnChaseIsElimination.j3 kj61 t300 t301 t302 true t314 t317))) = some r := H
           have A80 := Aside0.mk A800
           clear A800
           replace H := Option.bind_eq_some_iff.mp H
           obtain ⟨⟨t322, t323⟩, A810, H⟩ := H
           replace H : (if t318 = true then (if t321 = true then (if (t320 != t302) = true then (laws_FnChaseIsElimination.j3 kj61 t300 t301 t302 true t314 t317) else (if t323 = true then (laws_FnChaseIsElimination.j3 kj61 t300 t301 t302 (t322 != (t305.length : Int)) t314 t317) else (laws_FnChaseIsElimination.j3 kj61 t300 t301 t302 true t314 t317))) else (laws_FnChaseIsElimination.j3 kj61 t300 t301 t302 true t314 t317)) else (laws_FnChaseIsElimination.j3 kj61 t300 t301 t302 true t314 t317)) = some r := H
           have A81 := Aside0.mk A810
           clear A810
           have HC82 := Aside0.mk H
           clear H
           go_upto_region 26 with (first | ((with_reducible refine gate_callee (f := 20) rfl ?_); refine goesL_ (some 222) rfl rfl Try.func20 (by kernel_rfl) rfl #[.int .i64 t297, .int .i64 t298, .bool t299] rfl (by (try simp only [List.map_toArray, List.map_cons, List.map_nil]); first | done | rfl | (simp only [List.length_drop, List.length_take]; rfl)) ?_; (with_reducible refine (impl_GridGraph.calls kj61 t297 t298 t299 t314 t317 t318 _ A79.out).mono ?_); rintro e w83 ⟨v315, rfl, ho0, hb⟩; refine ⟨_, rfl, ?_⟩; have n0_ := Aside0.mk (Kd.R_elder' (by (with_reducible repeat (first | apply Kd.R_alloc | apply Kd.R_drewN | apply Kd.R_drew)); exact HO_30.out) (Kd.R_base ho0) hb); have n1_ := Aside0.mk (Kd.R_lower (Kd.R_new' ho0 (Kd.R_lt (by (with_reducible repeat (first | apply Kd.R_alloc | apply Kd.R_drewN | apply Kd.R_drew)); exact HO_30.out))) (below_size (by repeat (first | (with_reducible first | exact HB.out | apply below_alloc | apply pw_below_drewN | apply below_drew1) | exact HB.out)))); have n2_ := Aside0.mk (below_step (by repeat (first | (with_reducible first | exact HB.out | apply below_alloc | apply pw_below_drewN | apply below_drew1) | exact HB.out)) hb); clear HO_30; clear HB; have HO_30 := n0_; have HO316 := n1_; have HB := n2_; clear n0_ n1_ n2_; (try clear hb); (try clear hb2); (try clear hk); (try clear hi); (try clear ho0)) | ((with_reducible refine gate_dst (N := 34) rfl ?_); (try (refine gate_guard (by rfl) ?_; dsimp only)); refine box_event ?hg (N := 34) ?hd (cs := #[.slice none 0 0, .bool false]) (t := 36) ?hr ?_; (case hd => rfl); (case hg => rfl); (case hr => first | (go_simp; done) | (go_simp; rfl)); intro gb319 hg w84 hbox hb; have n0_ := Aside0.mk (Kd.R_below (by (with_reducible repeat (first | apply Kd.R_alloc | apply Kd.R_drewN | apply Kd.R_drew)); exact HO_30.out) hb); have n1_ := Aside0.mk (Kd.R_below (by (with_reducible repeat (first | apply Kd.R_alloc | apply Kd.R_drewN | apply Kd.R_drew)); exact HO316.out) hb); have n2_ := Aside0.mk (below_step (by repeat (first | (with_reducible first | exact HB.out | apply below_alloc | apply pw_below_drewN | apply below_drew1) | exact HB.out)) hb); have n3_ := Aside0.mk (hbox); have n4_ := Aside0.mk ((by rw [hg]; exact (below_size (by repeat (first | (with_reducible first | exact HB.out | apply below_alloc | apply pw_below_drewN | apply below_drew1) | exact HB.out))) : w.heap.size ≤ gb319)); have n5_ := Aside0.mk ((by rw [hg]; exact (below_size (by repeat (first | (with_reducible first | exact HB.out | apply below_alloc | apply pw_below_drewN | apply below_drew1) | exact HB.out))) : w.heap.size ≤ gb319)); clear HO_30; clear HO316; clear HB; have HO_30 := n0_; have HO316 := n1_; have HB := n2_; have BK319 := n3_; have GW319 := n4_; have GE319 := n5_; clear n0_ n1_ n2_ n3_ n4_ n5_; clear hb hbox hg; obtain ⟨Ao85, co85, eo85⟩ := Kd.R_slice HO316.out; subst eo85; have hcz86_0 : w84.cell? ⟨gb319, 0, none⟩ = some (.slice none 0 0) := (blk_cell BK319.out 0).trans rfl; have hcz86_1 : w84.cell? ⟨gb319, 1, none⟩ = some (.bool false) := (blk_cell BK319.out 1).trans rfl; have hfz86_0 := blk_frozen BK319.out 0; have hfz86_1 := blk_frozen BK319.out 1) | ((with_reducible refine gate_callee (f := 27) rfl ?_); refine goesL_ (some 228) rfl rfl Try.func27 (by kernel_rfl) rfl #[.agg #[.slice Ao85 t314.length co85, .bool t317], .int .i64 t300] rfl (by (try simp only [List.map_toArray, List.map_cons, List.map_nil]); first | done | rfl | (simp only [List.length_drop, List.length_take]; rfl)) ?_; (with_reducible refine (impl_CanSolve.calls _ _ t314 t317 t300 t320 t321 _ ?side1 ?side2 A80.out).mono ?_); (case side1 => refine (Kd.R_reads' (e := 3) (base := w.heap.size) (ok := fun k_ => (True ∧ some k_ ≠ (v307 : Value).ownBlock)) (n := t314.length) (c := co85) ?_).2.2; exact (by (with_reducible repeat (first | apply Kd.R_alloc | apply Kd.R_drewN | apply Kd.R_drew)); exact (Kd.R_mono (Kd.R_far (p := ⟨gb319, 1, none⟩) (Kd.R_far (p := ⟨gb319, 0, none⟩) (Kd.R_types HO316.out BK319.out (by decide)) (fun _ hk => hk.2) (.slice Ao85 t314.length co85)) (fun _ hk => hk.2) (.bool t317)) (fun _ h_ => h_.1)))); (case side2 => exact (Kd.R_reads' HO316.out).2.1); rintro e w87 ⟨rfl, hb⟩; refine ⟨_, rfl, ?_⟩; have n0_ := Aside0.mk (Kd.R_below (by (with_reducible repeat (first | apply Kd.R_alloc | apply Kd.R_drewN | apply Kd.R_drew)); exact (Kd.R_mono (Kd.R_far (p := ⟨gb319, 1, none⟩) (Kd.R_far (p := ⟨gb319, 0, none⟩) (Kd.R_types HO_30.out BK319.out (by decide)) (fun _ hk => hk.2) (.slice Ao85 t314.length co85)) (fun _ hk => hk.2) (.bool t317)) (fun _ h_ => h_.1))) hb); have n1_ := Aside0.mk (Kd.R_below (by (with_reducible repeat (first | apply Kd.R_alloc | apply Kd.R_drewN | apply Kd.R_drew)); exact (Kd.R_mono (Kd.R_far (p := ⟨gb319, 1, none⟩) (Kd.R_far (p := ⟨gb319, 0, none⟩) (Kd.R_types HO316.out BK319.out (by decide)) (fun _ hk => hk.2) (.slice Ao85 t314.length co85)) (fun _ hk => hk.2) (.bool t317)) (fun _ h_ => h_.1))) hb); have n2_ := Aside0.mk (blk_below (g := gb319) (o := .cells #[.slice Ao85 t314.length co85, .bool t317] 36 (0, 0)) (by (with_reducible repeat (first | refine blk_drewN ?_ _ | refine blk_drew ?_ | refine blk_alloc ?_ _)); refine blk_put (cs := #[.slice Ao85 t314.length co85, .bool false]) ?_ 1 _ rfl; (with_reducible repeat (first | refine blk_drewN ?_ _ | refine blk_drew ?_ | refine blk_alloc ?_ _)); refine blk_put (cs := #[.slice none 0 0, .bool false]) ?_ 0 _ rfl; (with_reducible repeat (first | refine blk_drewN ?_ _ | refine blk_drew ?_ | refine blk_alloc ?_ _)); exact BK319.out) hb); have n3_ := Aside0.mk (below_step (by repeat (first | (with_reducible first | exact HB.out | apply below_alloc | apply pw_below_drewN | apply below_drew1 | refine below_set ?_ GE319.out) | exact HB.out)) hb); clear HO_30; clear HO316; clear BK319; clear HB; have HO_30 := n0_; have HO316 := n1_; have BK319 := n2_; have HB := n3_; clear n0_ n1_ n2_ n3_; (try clear hb); (try clear hb2); (try clear hk); (try clear hi); have hcz88_0 : w87.cell? ⟨gb319, 0, none⟩ = some (.slice Ao85 t314.length co85) := (blk_cell BK319.out 0).trans rfl; have hcz88_1 : w87.cell? ⟨gb319, 1, none⟩ = some (.bool t317) := (blk_cell BK319.out 1).trans rfl; have hfz88_0 := blk_frozen BK319.out 0; have hfz88_1 := blk_frozen BK319.out 1) | ((with_reducible refine gate_callee (f := 28) rfl ?_); refine goesL_ (some 234) rfl rfl Try.func28 (by kernel_rfl) rfl #[.agg #[.slice Ao85 t314.length co85, .bool t317], .int .i64 t300] rfl (by (try simp only [List.map_toArray, List.map_cons, List.map_nil]); first | done | rfl | (simp only [List.length_drop, List.length_take]; rfl)) ?_; (with_reducible refine (impl_CountSolutions.calls _ _ t314 t317 t300 t322 t323 _ ?side1 ?side2 A81.out).mono ?_); (case side1 => repeat (first | exact (Kd.R_reads' HO316.out).2.2 | (with_reducible refine Kd.C_alloc ?_ _) | (with_reducible refine Kd.C_drewN ?_ _) | (with_reducible refine Kd.C_drew ?_))); (case side2 => exact (Kd.R_reads' HO316.out).2.1); rintro e w89 ⟨rfl, hb⟩; refine ⟨_, rfl, ?_⟩; have n0_ := Aside0.mk (Kd.R_below (by (with_reducible repeat (first | apply Kd.R_alloc | apply Kd.R_drewN | apply Kd.R_drew)); exact HO_30.out) hb); have n1_ := Aside0.mk (Kd.R_below (by (with_reducible repeat (first | apply Kd.R_alloc | apply Kd.R_drewN | apply Kd.R_drew)); exact HO316.out) hb); have n2_ := Aside0.mk (blk_below (g := gb319) (o := .cells #[.slice Ao85 t314.length co85, .bool t317] 36 (0, 0)) (by (with_reducible repeat (first | refine blk_drewN ?_ _ | refine blk_drew ?_ | refine blk_alloc ?_ _)); exact BK319.out) hb); have n3_ := Aside0.mk (below_step (by repeat (first | (with_reducible first | exact HB.out | apply below_alloc | apply pw_below_drewN | apply below_drew1 | refine below_set ?_ GE319.out) | exact HB.out)) hb); clear HO_30; clear HO316; clear BK319; clear HB; have HO_30 := n0_; have HO316 := n1_; have BK319 := n2_; have HB := n3_; clear n0_ n1_ n2_ n3_; (try clear hb); (try clear hb2); (try clear hk); (try clear hi)))
           (try simp only [Act.put, List.setIfInBounds_toArray, List.set_cons_zero, List.set_cons_succ])
           go_cut [257] (fun v257 wc => ∃ (kq : Nat) (x257_81 : Bool), v257 = .bool x257_81 ∧ Aside0 (laws_FnChaseIsElimination.j3 kq t300 t301 t302 x257_81 t314 t317 = some r) ∧ Aside0 (kq ≤ kj61) ∧ Aside0 (Kd.R (Kd.int .i64) 3 wc w.heap.size (fun _ => True) (.slice Ao85 t314.length co85) t314) ∧ Aside0 (wc.heap[gb319]? = some (.cells #[(.slice Ao85 t314.length co85), .bool t317] 36 (0, 0))) ∧ Aside0 (Below w.heap.size w wc))
           case first => as_aux_lemma =>
            have H := HC82.out
            clear HC82
            by_cases c90 : t318 = true
            ·
             subst c90
             have H1 : (if t321 = true then (if (t320 != t302) = true then (laws_FnChaseIsElimination.j3 kj61 t300 t301 t302 true t314 t317) else (if t323 = true then (laws_FnChaseIsElimination.j3 kj61 t300 t301 t302 (t322 != (t305.length : Int)) t314 t317) else (laws_FnChaseIsElimination.j3 kj61 t300 t301 t302 true t314 t317))) else (laws_FnChaseIsElimination.j3 kj61 t300 t301 t302 true t314 t317)) = some r := by rw [if_pos rfl] at H; exact H
             clear H
             have H := H1
             clear H1
             by_cases c91 : t321 = true
             ·
              subst c91
              have H1 : (if (t320 != t302) = true then (laws_FnChaseIsElimination.j3 kj61 t300 t301 t302 true t314 t317) else (if t323 = true then (laws_FnChaseIsElimination.j3 kj61 t300 t301 t302 (t322 != (t305.length : Int)) t314 t317) else (laws_FnChaseIsElimination.j3 kj61 t300 t301 t302 true t314 t317))) = some r := by rw [if_pos rfl] at H; exact H
              clear H
              have H := H1
              clear H1
              by_cases c92 : (t320 != t302) = true
              ·
               rw [if_pos c92] at H
               have c92b0 : (t320 != t302) = true := c92
               (try (have c92b1 : decide (t320 = t302) = false := by simpa using c92))
               (try (have c92b2 : (t320 == t302) = false := by simpa using c92))
               (try (have c92b3 : ¬ (t320 = t302) := by simpa using c92))
               clear c92
               (first | rw [c92b0] | (simp only [i64_w, i32_w]; rw [c92b0]) | skip)
               have H' := Aside0.mk H
               clear H
               go_wp2
               go_meet
               case rel => exact ⟨_, (true), (by first | rfl | (simp; done) | (simp [*]; done)), H', ⟨by have := HJ9.out; have := HJ18.out; have := HJ61.out; first | omega | exact Nat.le_refl _⟩, ⟨by (with_reducible repeat (first | apply Kd.R_alloc | apply Kd.R_drewN | apply Kd.R_drew)); exact Kd.R_mono HO316.out (fun _ hk => trivial)⟩, ⟨by (with_reducible repeat (first | refine blk_drewN ?_ _ | refine blk_drew ?_ | refine blk_alloc ?_ _)); exact BK319.out⟩, ⟨by repeat (first | (with_reducible first | exact HB.out | apply below_alloc | apply pw_below_drewN | apply below_drew1 | refine below_set ?_ GE319.out) | exact HB.out)⟩⟩
              ·
               rw [if_neg c92] at H
               have c92b0 : (t320 != t302) = false := by simpa using c92
               (try (have c92b1 : decide (t320 = t302) = true := by simpa using c92))
               (try (have c92b2 : (t320 == t302) = true := by simpa using c92))
               clear c92
               (first | rw [c92b0] | (simp only [i64_w, i32_w]; rw [c92b0]) | skip)
               by_cases c93 : t323 = true
               ·
                subst c93
                have H1 : (laws_FnChaseIsElimination.j3 kj61 t300 t301 t302 (t322 != (t305.length : Int)) t314 t317) = some r := by rw [if_pos rfl] at H; exact H
                clear H
                have H := H1
                clear H1
                have H' := Aside0.mk H
                clear H
                obtain ⟨Ao94, co94, eo94⟩ := Kd.R_slice HO_30.out
                subst eo94
                go_wp2
                go_meet
                case rel => exact ⟨_, ((t322 != (t305.length : Int))), (by first | rfl | (simp; done) | (simp [*]; done) | (simp; cases t322 <;> simp)), H', ⟨by have := HJ9.out; have := HJ18.out; have := HJ61.out; first | omega | exact Nat.le_refl _⟩, ⟨by (with_reducible repeat (first | apply Kd.R_alloc | apply Kd.R_drewN | apply Kd.R_drew)); exact Kd.R_mono HO316.out (fun _ hk => trivial)⟩, ⟨by (with_reducible repeat (first | refine blk_drewN ?_ _ | refine blk_drew ?_ | refine blk_alloc ?_ _)); exact BK319.out⟩, ⟨by repeat (first | (with_reducible first | exact HB.out | apply below_alloc | apply pw_below_drewN | apply below_drew1 | refine below_set ?_ GE319.out) | exact HB.out)⟩⟩
               ·
                replace c93 := Bool.eq_false_iff.mpr c93
                subst c93
                have H1 : (laws_FnChaseIsElimination.j3 kj61 t300 t301 t302 true t314 t317) = some r := by rw [if_neg (show ¬ (false = true) by decide)] at H; exact H
                clear H
                have H := H1
                clear H1
                have H' := Aside0.mk H
                clear H
                go_wp2
                go_meet
                case rel => exact ⟨_, (true), (by first | rfl | (simp; done) | (simp [*]; done)), H', ⟨by have := HJ9.out; have := HJ18.out; have := HJ61.out; first | omega | exact Nat.le_refl _⟩, ⟨by (with_reducible repeat (first | apply Kd.R_alloc | apply Kd.R_drewN | apply Kd.R_drew)); exact Kd.R_mono HO316.out (fun _ hk => trivial)⟩, ⟨by (with_reducible repeat (first | refine blk_drewN ?_ _ | refine blk_drew ?_ | refine blk_alloc ?_ _)); exact BK319.out⟩, ⟨by repeat (first | (with_reducible first | exact HB.out | apply below_alloc | apply pw_below_drewN | apply below_drew1 | refine below_set ?_ GE319.out) | exact HB.out)⟩⟩
             ·
              replace c91 := Bool.eq_false_iff.mpr c91
              subst c91
              have H1 : (laws_FnChaseIsElimination.j3 kj61 t300 t301 t302 true t314 t317) = some r := by rw [if_neg (show ¬ (false = true) by decide)] at H; exact H
              clear H
              have H := H1
              clear H1
              have H' := Aside0.mk H
              clear H
              go_wp2
              go_meet
              case rel => exact ⟨_, (true), (by first | rfl | (simp; done) | (simp [*]; done)), H', ⟨by have := HJ9.out; have := HJ18.out; have := HJ61.out; first | omega | exact Nat.le_refl _⟩, ⟨by (with_reducible repeat (first | apply Kd.R_alloc | apply Kd.R_drewN | apply Kd.R_drew)); exact Kd.R_mono HO316.out (fun _ hk => trivial)⟩, ⟨by (with_reducible repeat (first | refine blk_drewN ?_ _ | refine blk_drew ?_ | refine blk_alloc ?_ _)); exact BK319.out⟩, ⟨by repeat (first | (with_reducible first | exact HB.out | apply below_alloc | apply pw_below_drewN | apply below_drew1 | refine below_set ?_ GE319.out) | exact HB.out)⟩⟩
            ·
             replace c90 := Bool.eq_false_iff.mpr c90
             subst c90
             have H1 : (laws_FnChaseIsElimination.j3 kj61 t300 t301 t302 true t314 t317) = some r := by rw [if_neg (show ¬ (false = true) by decide)] at H; exact H
             clear H
             have H := H1
             clear H1
             have H' := Aside0.mk H
             clear H
             go_wp2
             go_meet
             case rel => exact ⟨_, (true), (by first | rfl | (simp; done) | (simp [*]; done)), H', ⟨by have := HJ9.out; have := HJ18.out; have := HJ61.out; first | omega | exact Nat.le_refl _⟩, ⟨by (with_reducible repeat (first | apply Kd.R_alloc | apply Kd.R_drewN | apply Kd.R_drew)); exact Kd.R_mono HO316.out (fun _ hk => trivial)⟩, ⟨by (with_reducible repeat (first | refine blk_drewN ?_ _ | refine blk_drew ?_ | refine blk_alloc ?_ _)); exact BK319.out⟩, ⟨by repeat (first | (with_reducible first | exact HB.out | apply below_alloc | apply pw_below_drewN | apply below_drew1 | refine below_set ?_ GE319.out) | exact HB.out)⟩⟩
           case rest =>
            clear HC82
            try clear c1
            try clear c2
            try clear p2
            try clear c3
            try clear c4
            try clear c6
            try clear p6
            try clear c7
            try clear c9
            try clear c11
            try clear c14
            try clear c14b0
            try clear c14b1
            try clear c14b2
            try clear c15
            try clear c15b0
            try clear c15b1
            try clear c16
            try clear c16b0
            try clear c16b1
            try clear c16b2
            try clear c17
            try clear c17b0
            try clear c17b1
            try clear c18
            try clear c19
            try clear c20
            try clear c21
            try clear c22
            try clear c23
            try clear c24
            try clear c25
            try clear c26
            try clear c26b0
            try clear c26b1
            try clear c27
            try clear c28
            try clear c28b0
            try clear c28b1
            try clear c29
            try clear c29b0
            try clear c29b1
            try clear c31
            try clear c31b0
            try clear c31b1
            try clear p64
            try clear c68
            try clear c68b0
            try clear c68b1
            try clear c68b2
            try clear c69
            try clear c69b0
            try clear c69b1
            try clear c70
            try clear c70b0
            try clear c70b1
            try clear c70b2
            try clear c72
            try clear c77
            try clear c78
            try clear c90
            try clear c91
            try clear c92
            try clear c92b0
            try clear c92b1
            try clear c92b2
            try clear c93
            try clear hcz35_0
            try clear hcz35_1
            try clear hcz40_0
            try clear hcz40_1
            try clear hcz45_0
            try clear hcz45_1
            try clear hcz50_0
            try clear hcz50_1
            try clear hcz55_0
            try clear hcz55_1
            try clear hcz86_0
            try clear hcz86_1
            try clear hcz88_0
            try clear hcz88_1
            try clear hfz35_0
            try clear hfz35_1
            try clear hfz40_0
            try clear hfz40_1
            try clear hfz45_0
            try clear hfz45_1
            try clear hfz50_0
            try clear hfz50_1
            try clear hfz55_0
            try clear hfz55_1
            try clear hfz86_0
            try clear hfz86_1
            try clear hfz88_0
            try clear hfz88_1
            try clear p2
            try clear p6
            try clear p64
            obtain ⟨kq, x257_81, rfl, HA, HJ81, HO_320000, BK319, HB⟩ := hcut
            cases kq with
            | zero => exact absurd HA.out (by simp [laws_FnChaseIsElimination.j3])
            | succ kj81 =>
             have H := HA.out
             clear HA
             simp only [laws_FnChaseIsElimination.j3] at H
             by_cases c95 : x257_81 = true
             ·
              subst c95
              have H1 : (some false) = some r := by rw [if_pos rfl] at H; exact H
              clear H
              have H := H1
              clear H1
              obtain rfl := Option.some.inj H
              go_wp2
              go_ret
              exact ⟨by first | rfl | (simp [errW_none, errW_some] <;> rfl) | (simp [*, errW_none, errW_some] <;> rfl), by repeat (first | (with_reducible first | exact HB.out | apply below_alloc | apply pw_below_drewN | apply below_drew1 | refine below_set ?_ GE319.out) | exact HB.out)⟩
             ·
              replace c95 := Bool.eq_false_iff.mpr c95
              subst c95
              have H1 : (if t302 = true then ((impl_PressAll.f kj81 t314 t317 t300 t301).bind fun bt324 => (if bt324.2 = true then (some (bt324.1 == 0)) else (some false))) else (some true)) = some r := by rw [if_neg (show ¬ (false = true) by decide)] at H; exact H
              clear H
              have H := H1
              clear H1
              by_cases c96 : t302 = true
              ·
               subst c96
               have H1 : ((impl_PressAll.f kj81 t314 t317 t300 t301).bind fun bt324 => (if bt324.2 = true then (some (bt324.1 == 0)) else (some false))) = some r := by rw [if_pos rfl] at H; exact H
               clear H
               have H := H1
               clear H1
               replace H := Option.bind_eq_some_iff.mp H
               obtain ⟨⟨t324, t325⟩, A970, H⟩ := H
               replace H : (if t325 = true then (some (t324 == 0)) else (some false)) = some r := H
               have A97 := Aside0.mk A970
               clear A970
               by_cases c98 : t325 = true
               ·
                subst c98
                have H1 : (some (t324 == 0)) = some r := by rw [if_pos rfl] at H; exact H
                clear H
                have H := H1
                clear H1
                obtain rfl := Option.some.inj H
                have hcz99_0 : wc.cell? ⟨gb319, 0, none⟩ = some (.slice Ao85 t314.length co85) := (blk_cell BK319.out 0).trans rfl
                have hcz99_1 : wc.cell? ⟨gb319, 1, none⟩ = some (.bool t317) := (blk_cell BK319.out 1).trans rfl
                have hfz99_0 := blk_frozen BK319.out 0
                have hfz99_1 := blk_frozen BK319.out 1
                go_wp2_with (first | ((with_reducible refine gate_callee (f := 21) rfl ?_); refine goesL_ (some 263) rfl rfl Try.func21 (by kernel_rfl) rfl #[.agg #[.slice Ao85 t314.length co85, .bool t317], .int .i64 t300, .int .i64 t301] rfl (by (try simp only [List.map_toArray, List.map_cons, List.map_nil]); first | done | rfl | (simp only [List.length_drop, List.length_take]; rfl)) ?_; (with_reducible refine (impl_PressAll.calls kj81 _ _ t314 t317 t300 t301 t324 true _ ?side1 ?side2 A97.out).mono ?_); (case side1 => repeat (first | exact (Kd.R_reads' HO_320000.out).2.2 | (with_reducible refine Kd.C_alloc ?_ _) | (with_reducible refine Kd.C_drewN ?_ _) | (with_reducible refine Kd.C_drew ?_))); (case side2 => exact (Kd.R_reads' HO_320000.out).2.1); rintro e w100 ⟨rfl, hb⟩; refine ⟨_, rfl, ?_⟩; have n0_ := Aside0.mk (Kd.R_below (by (with_reducible repeat (first | apply Kd.R_alloc | apply Kd.R_drewN | apply Kd.R_drew)); exact HO_320000.out) hb); have n1_ := Aside0.mk (blk_below (g := gb319) (o := .cells #[.slice Ao85 t314.length co85, .bool t317] 36 (0, 0)) (by (with_reducible repeat (first | refine blk_drewN ?_ _ | refine blk_drew ?_ | refine blk_alloc ?_ _)); exact BK319.out) hb); have n2_ := Aside0.mk (below_step (by repeat (first | (with_reducible first | exact HB.out | apply below_alloc | apply pw_below_drewN | apply below_drew1 | refine below_set ?_ GE319.out) | exact HB.out)) hb); clear HO_320000; clear BK319; clear HB; have HO_320000 := n0_; have BK319 := n1_; have HB := n2_; clear n0_ n1_ n2_; (try clear hb); (try clear hb2); (try clear hk); (try clear hi)))
                go_ret
                exact ⟨by first | rfl | (simp [errW_none, errW_some] <;> rfl) | (simp [*, errW_none, errW_some] <;> rfl), by repeat (first | (with_reducible first | exact HB.out | apply below_alloc | apply pw_below_drewN | apply below_drew1 | refine below_set ?_ GE319.out) | exact HB.out)⟩
               ·
                replace c98 := Bool.eq_false_iff.mpr c98
                subst c98
                have H1 : (some false) = some r := by rw [if_neg (show ¬ (false = true) by decide)] at H; exact H
                clear H
                have H := H1
                clear H1
                obtain rfl := Option.some.inj H
                have hcz101_0 : wc.cell? ⟨gb319, 0, none⟩ = some (.slice Ao85 t314.length co85) := (blk_cell BK319.out 0).trans rfl
                have hcz101_1 : wc.cell? ⟨gb319, 1, none⟩ = some (.bool t317) := (blk_cell BK319.out 1).trans rfl
                have hfz101_0 := blk_frozen BK319.out 0
                have hfz101_1 := blk_frozen BK319.out 1
                go_wp2_with (first | ((with_reducible refine gate_callee (f := 21) rfl ?_); refine goesL_ (some 263) rfl rfl Try.func21 (by kernel_rfl) rfl #[.agg #[.slice Ao85 t314.length co85, .bool t317], .int .i64 t300, .int .i64 t301] rfl (by (try simp only [List.map_toArray, List.map_cons, List.map_nil]); first | done | rfl | (simp only [List.length_drop, List.length_take]; rfl)) ?_; (with_reducible refine (impl_PressAll.calls kj81 _ _ t314 t317 t300 t301 t324 false _ ?side1 ?side2 A97.out).mono ?_); (case side1 => repeat (first | exact (Kd.R_reads' HO_320000.out).2.2 | (with_reducible refine Kd.C_alloc ?_ _) | (with_reducible refine Kd.C_drewN ?_ _) | (with_reducible refine Kd.C_drew ?_))); (case side2 => exact (Kd.R_reads' HO_320000.out).2.1); rintro e w102 ⟨rfl, hb⟩; refine ⟨_, rfl, ?_⟩; have n0_ := Aside0.mk (Kd.R_below (by (with_reducible repeat (first | apply Kd.R_alloc | apply Kd.R_drewN | apply Kd.R_drew)); exact HO_320000.out) hb); have n1_ := Aside0.mk (blk_below (g := gb319) (o := .cells #[.slice Ao85 t314.length co85, .bool t317] 36 (0, 0)) (by (with_reducible repeat (first | refine blk_drewN ?_ _ | refine blk_drew ?_ | refine blk_alloc ?_ _)); exact BK319.out) hb); have n2_ := Aside0.mk (below_step (by repeat (first | (with_reducible first | exact HB.out | apply below_alloc | apply pw_below_drewN | apply below_drew1 | refine below_set ?_ GE319.out) | exact HB.out)) hb); clear HO_320000; clear BK319; clear HB; have HO_320000 := n0_; have BK319 := n1_; have HB := n2_; clear n0_ n1_ n2_; (try clear hb); (try clear hb2); (try clear hk); (try clear hi)))
                go_ret
                exact ⟨by first | rfl | (simp [errW_none, errW_some] <;> rfl) | (simp [*, errW_none, errW_some] <;> rfl), by repeat (first | (with_reducible first | exact HB.out | apply below_alloc | apply pw_below_drewN | apply below_drew1 | refine below_set ?_ GE319.out) | exact HB.out)⟩
              ·
               replace c96 := Bool.eq_false_iff.mpr c96
               subst c96
               have H1 : (some true) = some r := by rw [if_neg (show ¬ (false = true) by decide)] at H; exact H
               clear H
               have H := H1
               clear H1
               obtain rfl := Option.some.inj H
               go_wp2
               go_ret
               exact ⟨by first | rfl | (simp [errW_none, errW_some] <;> rfl) | (simp [*, errW_none, errW_some] <;> rfl), by repeat (first | (with_reducible first | exact HB.out | apply below_alloc | apply pw_below_drewN | apply below_drew1 | refine below_set ?_ GE319.out) | exact HB.out)⟩
          ·
           replace c78 := Bool.eq_false_iff.mpr c78
           subst c78
           have H1 : (some true) = some r := by rw [if_neg (show ¬ (false = true) by decide)] at H; exact H
           clear H
           have H := H1
           clear H1
           obtain rfl := Option.some.inj H
           go_wp2
           go_ret
           exact ⟨by first | rfl | (simp [errW_none, errW_some] <;> rfl) | (simp [*, errW_none, errW_some] <;> rfl), by repeat (first | (with_reducible first | exact HB.out | apply below_alloc | apply pw_below_drewN | apply below_drew1) | exact HB.out)⟩

/-- THE ONE PURE STATEMENT of laws_FnChaseIsElimination: yours. -/
def laws_FnChaseIsElimination.Pure : Prop := ∀ (l0 : List Int) (l1 : List Int), l0.length ≤ maxLen → l0.length * 1 ≤ 140737488351232 → (∀ x ∈ l0, (Lit.int .u8 x).wf = true) → l1.length ≤ maxLen → l1.length * 1 ≤ 140737488351232 → (∀ x ∈ l1, (Lit.int .u8 x).wf = true) → ∃ k, laws_FnChaseIsElimination.f k l0 l1 = some true
theorem laws_FnChaseIsElimination.walk (P : laws_FnChaseIsElimination.Pure) (a0 : Option Addr) (len0 cap0 : Nat) (z0 : List Int) (a1 : Option Addr) (len1 cap1 : Nat) (z1 : List Int) (w : World) (w0 : (a0 = none ∧ len0 = 0 ∧ cap0 = 0 ∧ z0 = []) ∨ ∃ x, a0 = some x ∧ len0 ≤ cap0 ∧ cap0 ≤ maxLen ∧ z0.length = cap0 ∧ (∀ i, i < z0.length → w.cell? (x.add i) = some (.int .u8 (z0.getD i 0))) ∧ ∀ n ∈ z0, (Lit.int .u8 n).wf = true) (y0 : len0 * 1 ≤ 140737488351232) (w1 : (a1 = none ∧ len1 = 0 ∧ cap1 = 0 ∧ z1 = []) ∨ ∃ x, a1 = some x ∧ len1 ≤ cap1 ∧ cap1 ≤ maxLen ∧ z1.length = cap1 ∧ (∀ i, i < z1.length → w.cell? (x.add i) = some (.int .u8 (z1.getD i 0))) ∧ ∀ n ∈ z1, (Lit.int .u8 n).wf = true) (y1 : len1 * 1 ≤ 140737488351232) :
    Calls Try.prog 4 #[.slice a0 len0 cap0, .slice a1 len1 cap1] w fun e w' => e = .returned (.bool true) ∧ Below w.heap.size w w' := by
  obtain ⟨l0, rfl, hr0, hm0, hw0, hc0⟩ := ReadsInt.ofRowC w0
  obtain ⟨l1, rfl, hr1, hm1, hw1, hc1⟩ := ReadsInt.ofRowC w1
  obtain ⟨k, h⟩ := P l0 l1 hm0 y0 hw0 hm1 y1 hw1
  refine (laws_FnChaseIsElimination.calls k _ _ l0 _ _ l1 true w (Kd.C_of_reads (d := (0 : Int)) (h1 := fun _ => rfl) hr0) hc0 (Kd.C_of_reads (d := (0 : Int)) (h1 := fun _ => rfl) hr1) hc1 h).mono ?_
  rintro e w' ⟨rfl, hd⟩
  exact ⟨rfl, hd⟩

end Go.Proofs.Ytgnjndkbccakgaa.PFnChaseIsElimination
