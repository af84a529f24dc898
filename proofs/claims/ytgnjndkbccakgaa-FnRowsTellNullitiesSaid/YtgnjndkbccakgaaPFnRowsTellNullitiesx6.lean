-- WRITTEN BY xprint.py, a program of this session, which runs the kit's print over functions with given contracts
import Derived.Test.YtgnjndkbccakgaaPFnRowsTellNullitiesx1
import Derived.Test.YtgnjndkbccakgaaPFnRowsTellNullitiesx2
import Derived.Test.YtgnjndkbccakgaaPFnRowsTellNullitiesx3
import Derived.Test.YtgnjndkbccakgaaPFnRowsTellNullitiesx4
import Derived.Test.YtgnjndkbccakgaaPFnRowsTellNullitiesx5
namespace Go.Proofs.Ytgnjndkbccakgaa.PFnRowsTellNullities
open Go.RowKit Go.Proofs.YtgnjndkbccakgaaW.PrintWords Go.Proofs.YtgnjndkbccakgaaW.PrintLast Go.Proofs.YtgnjndkbccakgaaW.PrintMore
attribute [local go_sem] max2_int min2_int max_two min_two max_three min_three max_four min_four   -- for this text's walks alone
set_option linter.unusedVariables false
set_option linter.unusedSimpArgs false

/-! ### laws_FnRowsTellNullities: function 5 -/
mutual
def laws_FnRowsTellNullities.j0 : Nat → List Int → List Int → Int → Int → Bool → Int → Bool → Bool → Option (Bool)
  | 0, _, _, _, _, _, _, _, _ => none
  | k + 1, x0, x1, x5, x6, x7, x8, x9, x94 => if x94 = true then (some false) else (if x9 = true then (laws_FnRowsTellNullities.j1 k x0 x1 x5 x6 x7 x8 (decide ((wrap64 (x5 * x6)) ≤ 16))) else (laws_FnRowsTellNullities.j1 k x0 x1 x5 x6 x7 x8 false))
def laws_FnRowsTellNullities.j1 : Nat → List Int → List Int → Int → Int → Bool → Int → Bool → Option (Bool)
  | 0, _, _, _, _, _, _, _ => none
  | k + 1, x0, x1, x5, x6, x7, x8, x101 => if x101 = true then ((impl_GridGraph.f k x5 x6 x7).bind fun bt210 => ((impl_NullityOf.f bt210.1 bt210.2.1).bind fun bt216 => (if bt210.2.2 = true then (if bt216.2 = true then (if bt216.1 = x8 then (laws_FnRowsTellNullities.j2 k x0 x1) else (some false)) else (some false)) else (some false)))) else (laws_FnRowsTellNullities.j2 k x0 x1)
def laws_FnRowsTellNullities.j2 : Nat → List Int → List Int → Option (Bool)
  | 0, _, _ => none
  | k + 1, x0, x1 => (spec_DrawRowPeriod.f x1).bind fun bt218 => ((impl_RowPeriod.f bt218.1 bt218.2.1 bt218.2.2).bind fun bt221 => ((spec_RowPeriod.f k bt218.1 bt218.2.1 bt218.2.2).bind fun bt223 => ((impl_RowToggles.f bt218.1 bt218.2.1 bt218.2.2).bind fun bt225 => ((spec_RowToggles.f bt218.1 bt218.2.1 bt218.2.2).bind fun bt227 => (if (bt221.2 != bt223.2) = true then (laws_FnRowsTellNullities.j3 k x0 x1 bt218.1 bt218.2.1 bt218.2.2 bt221.1 bt221.2 true) else (if bt221.1 = bt223.1 then (if (bt225.2 != bt227.2) = true then (laws_FnRowsTellNullities.j3 k x0 x1 bt218.1 bt218.2.1 bt218.2.2 bt221.1 bt221.2 true) else (laws_FnRowsTellNullities.j3 k x0 x1 bt218.1 bt218.2.1 bt218.2.2 bt221.1 bt221.2 (bt225.1 != bt227.1))) else (laws_FnRowsTellNullities.j3 k x0 x1 bt218.1 bt218.2.1 bt218.2.2 bt221.1 bt221.2 true)))))))
def laws_FnRowsTellNullities.j3 : Nat → List Int → List Int → Int → Bool → Int → Int → Bool → Bool → Option (Bool)
  | 0, _, _, _, _, _, _, _, _ => none
  | k + 1, x0, x1, x16, x17, x18, x19, x20, x176 => if x176 = true then (some false) else (if x20 = true then (laws_FnRowsTellNullities.j4 k x0 x1 x16 x17 x18 x19 (decide (x19 ≤ 200))) else (laws_FnRowsTellNullities.j4 k x0 x1 x16 x17 x18 x19 false))
def laws_FnRowsTellNullities.j4 : Nat → List Int → List Int → Int → Bool → Int → Int → Bool → Option (Bool)
  | 0, _, _, _, _, _, _, _ => none
  | k + 1, x0, x1, x16, x17, x18, x19, x181 => if x181 = true then ((impl_RowBehind.f x16 x17 x18 x19).bind fun bt229 => ((impl_RowBehind.f x16 x17 x18 (wrap64 (x19 - 1))).bind fun bt231 => (if bt229.2 = true then (if bt229.1 = x18 then (if bt231.2 = true then (if bt231.1 = 0 then (laws_FnRowsTellNullities.j5 k x0 x1) else (some false)) else (some false)) else (some false)) else (some false)))) else (laws_FnRowsTellNullities.j5 k x0 x1)
def laws_FnRowsTellNullities.j5 : Nat → List Int → List Int → Option (Bool)
  | 0, _, _ => none
  | k + 1, x0, x1 => (spec_DrawQuietRows.f x1).bind fun bt233 => ((impl_QuietRows.f bt233.1 bt233.2.1 bt233.2.2.1 bt233.2.2.2).bind fun bt237 => ((spec_QuietRows.f k bt233.1 bt233.2.1 bt233.2.2.1 bt233.2.2.2).bind fun bt241 => (if (bt237.2 != bt241.2) = true then (laws_FnRowsTellNullities.j6 k x0 bt233.1 bt233.2.1 bt233.2.2.1 bt237.1 true) else ((laws_hSame.f k bt237.1 bt241.1).bind fun t245 => (laws_FnRowsTellNullities.j6 k x0 bt233.1 bt233.2.1 bt233.2.2.1 bt237.1 (!t245))))))
def laws_FnRowsTellNullities.j6 : Nat → List Int → Int → Bool → Int → List Int → Bool → Option (Bool)
  | 0, _, _, _, _, _, _ => none
  | k + 1, x0, x31, x32, x33, x35, x245 => if x245 = true then (some false) else (laws_FnRowsTellNullities.l0 k x0 x31 x32 x33 x35 x35 (x35.length : Int) 0)
def laws_FnRowsTellNullities.l0 : Nat → List Int → Int → Bool → Int → List Int → List Int → Int → Int → Option (Bool)
  | 0, _, _, _, _, _, _, _, _ => none
  | k + 1, x0, x31, x32, x33, x35, x246, x247, x248 => if x248 < x247 then (if 0 ≤ x248 then (if x248 < (x246.length : Int) then ((impl_RowBehind.f x31 x32 x33 (rd x246 x248)).bind fun bt247 => ((impl_NullityByRows.f (rd x246 x248) x31 x32).bind fun bt249 => (if bt247.2 = true then (if bt247.1 = 0 then (if bt249.2 = true then (if bt249.1 < 1 then (some false) else (if 0 < (x35.length : Int) then (if (wrap64 ((rd x246 x248) + 1)) = (wrap64 ((wrap64 (x248 + 1)) * (wrap64 ((rd x35 0) + 1)))) then (laws_FnRowsTellNullities.l0 k x0 x31 x32 x33 x35 x246 x247 (wrap64 (x248 + 1))) else (some false)) else (none))) else (some false)) else (some false)) else (some false)))) else (none)) else (none)) else ((spec_DrawRowBehind.f x0).bind fun bt252 => ((impl_RowBehind.f bt252.1 bt252.2.1 bt252.2.2.1 bt252.2.2.2).bind fun bt256 => ((spec_RowBehind.f k bt252.1 bt252.2.1 bt252.2.2.1 bt252.2.2.2).bind fun bt258 => ((spec_DrawNullitiesByRows.f x0).bind fun bt260 => ((impl_NullitiesByRows.f k bt260.1 bt260.2.1 bt260.2.2).bind fun bt263 => ((spec_NullitiesByRows.f k bt260.1 bt260.2.1 bt260.2.2).bind fun bt267 => (if (bt256.2 != bt258.2) = true then (laws_FnRowsTellNullities.j8 k bt260.1 bt260.2.1 bt263.1 true) else (if bt256.1 = bt258.1 then (if (bt263.2 != bt267.2) = true then (laws_FnRowsTellNullities.j8 k bt260.1 bt260.2.1 bt263.1 true) else ((laws_hSame.f k bt263.1 bt267.1).bind fun t271 => (laws_FnRowsTellNullities.j8 k bt260.1 bt260.2.1 bt263.1 (!t271)))) else (laws_FnRowsTellNullities.j8 k bt260.1 bt260.2.1 bt263.1 true)))))))))
def laws_FnRowsTellNullities.j8 : Nat → Int → Bool → List Int → Bool → Option (Bool)
  | 0, _, _, _, _ => none
  | k + 1, x53, x54, x56, x356 => if x356 = true then (some false) else (laws_FnRowsTellNullities.l1 k x53 x54 x56 (x56.length : Int) 0)
def laws_FnRowsTellNullities.l1 : Nat → Int → Bool → List Int → Int → Int → Option (Bool)
  | 0, _, _, _, _, _ => none
  | k + 1, x53, x54, x357, x358, x359 => if x359 < x358 then (if 0 ≤ x359 then (if x359 < (x357.length : Int) then ((impl_NullityByRows.f (wrap64 (x359 + 1)) x53 x54).bind fun bt273 => (if bt273.2 = true then (if bt273.1 = (rd x357 x359) then (laws_FnRowsTellNullities.l1 k x53 x54 x357 x358 (wrap64 (x359 + 1))) else (some false)) else (some false))) else (none)) else (none)) else (some true)
end
def laws_FnRowsTellNullities.f (k : Nat) (l0 : List Int) (l1 : List Int) : Option (Bool) := (laws_big.f l0 l1).bind fun t202 => (if t202 = true then (some true) else ((spec_DrawNullityByRows.f l0).bind fun bt203 => ((impl_NullityByRows.f bt203.1 bt203.2.1 bt203.2.2).bind fun bt206 => ((spec_NullityByRows.f k bt203.1 bt203.2.1 bt203.2.2).bind fun bt208 => (if (bt206.2 != bt208.2) = true then (laws_FnRowsTellNullities.j0 k l0 l1 bt203.1 bt203.2.1 bt203.2.2 bt206.1 bt206.2 true) else (laws_FnRowsTellNullities.j0 k l0 l1 bt203.1 bt203.2.1 bt203.2.2 bt206.1 bt206.2 (bt206.1 != bt208.1)))))))
theorem laws_FnRowsTellNullities.mono_l : ∀ k, (∀ y0 y1 y2 y3 y4 y5 y6 y7, LeO (laws_FnRowsTellNullities.j0 k y0 y1 y2 y3 y4 y5 y6 y7) (laws_FnRowsTellNullities.j0 (k + 1) y0 y1 y2 y3 y4 y5 y6 y7)) ∧ (∀ y0 y1 y2 y3 y4 y5 y6, LeO (laws_FnRowsTellNullities.j1 k y0 y1 y2 y3 y4 y5 y6) (laws_FnRowsTellNullities.j1 (k + 1) y0 y1 y2 y3 y4 y5 y6)) ∧ (∀ y0 y1, LeO (laws_FnRowsTellNullities.j2 k y0 y1) (laws_FnRowsTellNullities.j2 (k + 1) y0 y1)) ∧ (∀ y0 y1 y2 y3 y4 y5 y6 y7, LeO (laws_FnRowsTellNullities.j3 k y0 y1 y2 y3 y4 y5 y6 y7) (laws_FnRowsTellNullities.j3 (k + 1) y0 y1 y2 y3 y4 y5 y6 y7)) ∧ (∀ y0 y1 y2 y3 y4 y5 y6, LeO (laws_FnRowsTellNullities.j4 k y0 y1 y2 y3 y4 y5 y6) (laws_FnRowsTellNullities.j4 (k + 1) y0 y1 y2 y3 y4 y5 y6)) ∧ (∀ y0 y1, LeO (laws_FnRowsTellNullities.j5 k y0 y1) (laws_FnRowsTellNullities.j5 (k + 1) y0 y1)) ∧ (∀ y0 y1 y2 y3 y4 y5, LeO (laws_FnRowsTellNullities.j6 k y0 y1 y2 y3 y4 y5) (laws_FnRowsTellNullities.j6 (k + 1) y0 y1 y2 y3 y4 y5)) ∧ (∀ y0 y1 y2 y3 y4 y5 y6 y7, LeO (laws_FnRowsTellNullities.l0 k y0 y1 y2 y3 y4 y5 y6 y7) (laws_FnRowsTellNullities.l0 (k + 1) y0 y1 y2 y3 y4 y5 y6 y7)) ∧ (∀ y0 y1 y2 y3, LeO (laws_FnRowsTellNullities.j8 k y0 y1 y2 y3) (laws_FnRowsTellNullities.j8 (k + 1) y0 y1 y2 y3)) ∧ (∀ y0 y1 y2 y3 y4, LeO (laws_FnRowsTellNullities.l1 k y0 y1 y2 y3 y4) (laws_FnRowsTellNullities.l1 (k + 1) y0 y1 y2 y3 y4))
  | 0 => ⟨fun _ _ _ _ _ _ _ _ r h => by simp [laws_FnRowsTellNullities.j0] at h, fun _ _ _ _ _ _ _ r h => by simp [laws_FnRowsTellNullities.j1] at h, fun _ _ r h => by simp [laws_FnRowsTellNullities.j2] at h, fun _ _ _ _ _ _ _ _ r h => by simp [laws_FnRowsTellNullities.j3] at h, fun _ _ _ _ _ _ _ r h => by simp [laws_FnRowsTellNullities.j4] at h, fun _ _ r h => by simp [laws_FnRowsTellNullities.j5] at h, fun _ _ _ _ _ _ r h => by simp [laws_FnRowsTellNullities.j6] at h, fun _ _ _ _ _ _ _ _ r h => by simp [laws_FnRowsTellNullities.l0] at h, fun _ _ _ _ r h => by simp [laws_FnRowsTellNullities.j8] at h, fun _ _ _ _ _ r h => by simp [laws_FnRowsTellNullities.l1] at h⟩
  | k + 1 => by
    obtain ⟨ih0, ih1, ih2, ih3, ih4, ih5, ih6, ih7, ih8, ih9⟩ := laws_FnRowsTellNullities.mono_l k
    refine ⟨?_, ?_, ?_, ?_, ?_, ?_, ?_, ?_, ?_, ?_⟩
    · intro y0 y1 y2 y3 y4 y5 y6 y7
      unfold laws_FnRowsTellNullities.j0
      repeat' first
      | (with_reducible exact ih0 _ _ _ _ _ _ _ _)
      | (with_reducible exact ih1 _ _ _ _ _ _ _)
      | (with_reducible exact ih2 _ _)
      | (with_reducible exact ih3 _ _ _ _ _ _ _ _)
      | (with_reducible exact ih4 _ _ _ _ _ _ _)
      | (with_reducible exact ih5 _ _)
      | (with_reducible exact ih6 _ _ _ _ _ _)
      | (with_reducible exact ih7 _ _ _ _ _ _ _ _)
      | (with_reducible exact ih8 _ _ _ _)
      | (with_reducible exact ih9 _ _ _ _ _)
      | (with_reducible exact impl_GridGraph.mono _ _ _ _)
      | (with_reducible exact impl_NullitiesByRows.mono _ _ _ _)
      | (with_reducible exact laws_hSame.mono _ _ _)
      | (with_reducible exact spec_NullitiesByRows.mono _ _ _ _)
      | (with_reducible exact spec_NullityByRows.mono _ _ _ _)
      | (with_reducible exact spec_QuietRows.mono _ _ _ _ _)
      | (with_reducible exact spec_RowBehind.mono _ _ _ _ _)
      | (with_reducible exact spec_RowPeriod.mono _ _ _ _)
      | (with_reducible exact LeO.refl _)
      | (with_reducible exact LeO.none _)
      | (with_reducible refine LeO.ite ?_ ?_)
      | (with_reducible refine LeO.bind ?_ (fun _ => ?_))
      | exact ih0 _ _ _ _ _ _ _ _
      | exact ih1 _ _ _ _ _ _ _
      | exact ih2 _ _
      | exact ih3 _ _ _ _ _ _ _ _
      | exact ih4 _ _ _ _ _ _ _
      | exact ih5 _ _
      | exact ih6 _ _ _ _ _ _
      | exact ih7 _ _ _ _ _ _ _ _
      | exact ih8 _ _ _ _
      | exact ih9 _ _ _ _ _
      | exact impl_GridGraph.mono _ _ _ _
      | exact impl_NullitiesByRows.mono _ _ _ _
      | exact laws_hSame.mono _ _ _
      | exact spec_NullitiesByRows.mono _ _ _ _
      | exact spec_NullityByRows.mono _ _ _ _
      | exact spec_QuietRows.mono _ _ _ _ _
      | exact spec_RowBehind.mono _ _ _ _ _
      | exact spec_RowPeriod.mono _ _ _ _
      | exact LeO.none _
      | refine LeO.ite ?_ ?_
      | refine LeO.bind ?_ (fun _ => ?_)
    · intro y0 y1 y2 y3 y4 y5 y6
      unfold laws_FnRowsTellNullities.j1
      repeat' first
      | (with_reducible exact ih0 _ _ _ _ _ _ _ _)
      | (with_reducible exact ih1 _ _ _ _ _ _ _)
      | (with_reducible exact ih2 _ _)
      | (with_reducible exact ih3 _ _ _ _ _ _ _ _)
      | (with_reducible exact ih4 _ _ _ _ _ _ _)
      | (with_reducible exact ih5 _ _)
      | (with_reducible exact ih6 _ _ _ _ _ _)
      | (with_reducible exact ih7 _ _ _ _ _ _ _ _)
      | (with_reducible exact ih8 _ _ _ _)
      | (with_reducible exact ih9 _ _ _ _ _)
      | (with_reducible exact impl_GridGraph.mono _ _ _ _)
      | (with_reducible exact impl_NullitiesByRows.mono _ _ _ _)
      | (with_reducible exact laws_hSame.mono _ _ _)
      | (with_reducible exact spec_NullitiesByRows.mono _ _ _ _)
      | (with_reducible exact spec_NullityByRows.mono _ _ _ _)
      | (with_reducible exact spec_QuietRows.mono _ _ _ _ _)
      | (with_reducible exact spec_RowBehind.mono _ _ _ _ _)
      | (with_reducible exact spec_RowPeriod.mono _ _ _ _)
      | (with_reducible exact LeO.refl _)
      | (with_reducible exact LeO.none _)
      | (with_reducible refine LeO.ite ?_ ?_)
      | (with_reducible refine LeO.bind ?_ (fun _ => ?_))
      | exact ih0 _ _ _ _ _ _ _ _
      | exact ih1 _ _ _ _ _ _ _
      | exact ih2 _ _
      | exact ih3 _ _ _ _ _ _ _ _
      | exact ih4 _ _ _ _ _ _ _
      | exact ih5 _ _
      | exact ih6 _ _ _ _ _ _
      | exact ih7 _ _ _ _ _ _ _ _
      | exact ih8 _ _ _ _
      | exact ih9 _ _ _ _ _
      | exact impl_GridGraph.mono _ _ _ _
      | exact impl_NullitiesByRows.mono _ _ _ _
      | exact laws_hSame.mono _ _ _
      | exact spec_NullitiesByRows.mono _ _ _ _
      | exact spec_NullityByRows.mono _ _ _ _
      | exact spec_QuietRows.mono _ _ _ _ _
      | exact spec_RowBehind.mono _ _ _ _ _
      | exact spec_RowPeriod.mono _ _ _ _
      | exact LeO.none _
      | refine LeO.ite ?_ ?_
      | refine LeO.bind ?_ (fun _ => ?_)
    · intro y0 y1
      unfold laws_FnRowsTellNullities.j2
      repeat' first
      | (with_reducible exact ih0 _ _ _ _ _ _ _ _)
      | (with_reducible exact ih1 _ _ _ _ _ _ _)
      | (with_reducible exact ih2 _ _)
      | (with_reducible exact ih3 _ _ _ _ _ _ _ _)
      | (with_reducible exact ih4 _ _ _ _ _ _ _)
      | (with_reducible exact ih5 _ _)
      | (with_reducible exact ih6 _ _ _ _ _ _)
      | (with_reducible exact ih7 _ _ _ _ _ _ _ _)
      | (with_reducible exact ih8 _ _ _ _)
      | (with_reducible exact ih9 _ _ _ _ _)
      | (with_reducible exact impl_GridGraph.mono _ _ _ _)
      | (with_reducible exact impl_NullitiesByRows.mono _ _ _ _)
      | (with_reducible exact laws_hSame.mono _ _ _)
      | (with_reducible exact spec_NullitiesByRows.mono _ _ _ _)
      | (with_reducible exact spec_NullityByRows.mono _ _ _ _)
      | (with_reducible exact spec_QuietRows.mono _ _ _ _ _)
      | (with_reducible exact spec_RowBehind.mono _ _ _ _ _)
      | (with_reducible exact spec_RowPeriod.mono _ _ _ _)
      | (with_reducible exact LeO.refl _)
      | (with_reducible exact LeO.none _)
      | (with_reducible refine LeO.ite ?_ ?_)
      | (with_reducible refine LeO.bind ?_ (fun _ => ?_))
      | exact ih0 _ _ _ _ _ _ _ _
      | exact ih1 _ _ _ _ _ _ _
      | exact ih2 _ _
      | exact ih3 _ _ _ _ _ _ _ _
      | exact ih4 _ _ _ _ _ _ _
      | exact ih5 _ _
      | exact ih6 _ _ _ _ _ _
      | exact ih7 _ _ _ _ _ _ _ _
      | exact ih8 _ _ _ _
      | exact ih9 _ _ _ _ _
      | exact impl_GridGraph.mono _ _ _ _
      | exact impl_NullitiesByRows.mono _ _ _ _
      | exact laws_hSame.mono _ _ _
      | exact spec_NullitiesByRows.mono _ _ _ _
      | exact spec_NullityByRows.mono _ _ _ _
      | exact spec_QuietRows.mono _ _ _ _ _
      | exact spec_RowBehind.mono _ _ _ _ _
      | exact spec_RowPeriod.mono _ _ _ _
      | exact LeO.none _
      | refine LeO.ite ?_ ?_
      | refine LeO.bind ?_ (fun _ => ?_)
    · intro y0 y1 y2 y3 y4 y5 y6 y7
      unfold laws_FnRowsTellNullities.j3
      repeat' first
      | (with_reducible exact ih0 _ _ _ _ _ _ _ _)
      | (with_reducible exact ih1 _ _ _ _ _ _ _)
      | (with_reducible exact ih2 _ _)
      | (with_reducible exact ih3 _ _ _ _ _ _ _ _)
      | (with_reducible exact ih4 _ _ _ _ _ _ _)
      | (with_reducible exact ih5 _ _)
      | (with_reducible exact ih6 _ _ _ _ _ _)
      | (with_reducible exact ih7 _ _ _ _ _ _ _ _)
      | (with_reducible exact ih8 _ _ _ _)
      | (with_reducible exact ih9 _ _ _ _ _)
      | (with_reducible exact impl_GridGraph.mono _ _ _ _)
      | (with_reducible exact impl_NullitiesByRows.mono _ _ _ _)
      | (with_reducible exact laws_hSame.mono _ _ _)
      | (with_reducible exact spec_NullitiesByRows.mono _ _ _ _)
      | (with_reducible exact spec_NullityByRows.mono _ _ _ _)
      | (with_reducible exact spec_QuietRows.mono _ _ _ _ _)
      | (with_reducible exact spec_RowBehind.mono _ _ _ _ _)
      | (with_reducible exact spec_RowPeriod.mono _ _ _ _)
      | (with_reducible exact LeO.refl _)
      | (with_reducible exact LeO.none _)
      | (with_reducible refine LeO.ite ?_ ?_)
      | (with_reducible refine LeO.bind ?_ (fun _ => ?_))
      | exact ih0 _ _ _ _ _ _ _ _
      | exact ih1 _ _ _ _ _ _ _
      | exact ih2 _ _
      | exact ih3 _ _ _ _ _ _ _ _
      | exact ih4 _ _ _ _ _ _ _
      | exact ih5 _ _
      | exact ih6 _ _ _ _ _ _
      | exact ih7 _ _ _ _ _ _ _ _
      | exact ih8 _ _ _ _
      | exact ih9 _ _ _ _ _
      | exact impl_GridGraph.mono _ _ _ _
      | exact impl_NullitiesByRows.mono _ _ _ _
      | exact laws_hSame.mono _ _ _
      | exact spec_NullitiesByRows.mono _ _ _ _
      | exact spec_NullityByRows.mono _ _ _ _
      | exact spec_QuietRows.mono _ _ _ _ _
      | exact spec_RowBehind.mono _ _ _ _ _
      | exact spec_RowPeriod.mono _ _ _ _
      | exact LeO.none _
      | refine LeO.ite ?_ ?_
      | refine LeO.bind ?_ (fun _ => ?_)
    · intro y0 y1 y2 y3 y4 y5 y6
      unfold laws_FnRowsTellNullities.j4
      repeat' first
      | (with_reducible exact ih0 _ _ _ _ _ _ _ _)
      | (with_reducible exact ih1 _ _ _ _ _ _ _)
      | (with_reducible exact ih2 _ _)
      | (with_reducible exact ih3 _ _ _ _ _ _ _ _)
      | (with_reducible exact ih4 _ _ _ _ _ _ _)
      | (with_reducible exact ih5 _ _)
      | (with_reducible exact ih6 _ _ _ _ _ _)
      | (with_reducible exact ih7 _ _ _ _ _ _ _ _)
      | (with_reducible exact ih8 _ _ _ _)
      | (with_reducible exact ih9 _ _ _ _ _)
      | (with_reducible exact impl_GridGraph.mono _ _ _ _)
      | (with_reducible exact impl_NullitiesByRows.mono _ _ _ _)
      | (with_reducible exact laws_hSame.mono _ _ _)
      | (with_reducible exact spec_NullitiesByRows.mono _ _ _ _)
      | (with_reducible exact spec_NullityByRows.mono _ _ _ _)
      | (with_reducible exact spec_QuietRows.mono _ _ _ _ _)
      | (with_reducible exact spec_RowBehind.mono _ _ _ _ _)
      | (with_reducible exact spec_RowPeriod.mono _ _ _ _)
      | (with_reducible exact LeO.refl _)
      | (with_reducible exact LeO.none _)
      | (with_reducible refine LeO.ite ?_ ?_)
      | (with_reducible refine LeO.bind ?_ (fun _ => ?_))
      | exact ih0 _ _ _ _ _ _ _ _
      | exact ih1 _ _ _ _ _ _ _
      | exact ih2 _ _
      | exact ih3 _ _ _ _ _ _ _ _
      | exact ih4 _ _ _ _ _ _ _
      | exact ih5 _ _
      | exact ih6 _ _ _ _ _ _
      | exact ih7 _ _ _ _ _ _ _ _
      | exact ih8 _ _ _ _
      | exact ih9 _ _ _ _ _
      | exact impl_GridGraph.mono _ _ _ _
      | exact impl_NullitiesByRows.mono _ _ _ _
      | exact laws_hSame.mono _ _ _
      | exact spec_NullitiesByRows.mono _ _ _ _
      | exact spec_NullityByRows.mono _ _ _ _
      | exact spec_QuietRows.mono _ _ _ _ _
      | exact spec_RowBehind.mono _ _ _ _ _
      | exact spec_RowPeriod.mono _ _ _ _
      | exact LeO.none _
      | refine LeO.ite ?_ ?_
      | refine LeO.bind ?_ (fun _ => ?_)
    · intro y0 y1
      unfold laws_FnRowsTellNullities.j5
      repeat' first
      | (with_reducible exact ih0 _ _ _ _ _ _ _ _)
      | (with_reducible exact ih1 _ _ _ _ _ _ _)
      | (with_reducible exact ih2 _ _)
      | (with_reducible exact ih3 _ _ _ _ _ _ _ _)
      | (with_reducible exact ih4 _ _ _ _ _ _ _)
      | (with_reducible exact ih5 _ _)
      | (with_reducible exact ih6 _ _ _ _ _ _)
      | (with_reducible exact ih7 _ _ _ _ _ _ _ _)
      | (with_reducible exact ih8 _ _ _ _)
      | (with_reducible exact ih9 _ _ _ _ _)
      | (with_reducible exact impl_GridGraph.mono _ _ _ _)
      | (with_reducible exact impl_NullitiesByRows.mono _ _ _ _)
      | (with_reducible exact laws_hSame.mono _ _ _)
      | (with_reducible exact spec_NullitiesByRows.mono _ _ _ _)
      | (with_reducible exact spec_NullityByRows.mono _ _ _ _)
      | (with_reducible exact spec_QuietRows.mono _ _ _ _ _)
      | (with_reducible exact spec_RowBehind.mono _ _ _ _ _)
      | (with_reducible exact spec_RowPeriod.mono _ _ _ _)
      | (with_reducible exact LeO.refl _)
      | (with_reducible exact LeO.none _)
      | (with_reducible refine LeO.ite ?_ ?_)
      | (with_reducible refine LeO.bind ?_ (fun _ => ?_))
      | exact ih0 _ _ _ _ _ _ _ _
      | exact ih1 _ _ _ _ _ _ _
      | exact ih2 _ _
      | exact ih3 _ _ _ _ _ _ _ _
      | exact ih4 _ _ _ _ _ _ _
      | exact ih5 _ _
      | exact ih6 _ _ _ _ _ _
      | exact ih7 _ _ _ _ _ _ _ _
      | exact ih8 _ _ _ _
      | exact ih9 _ _ _ _ _
      | exact impl_GridGraph.mono _ _ _ _
      | exact impl_NullitiesByRows.mono _ _ _ _
      | exact laws_hSame.mono _ _ _
      | exact spec_NullitiesByRows.mono _ _ _ _
      | exact spec_NullityByRows.mono _ _ _ _
      | exact spec_QuietRows.mono _ _ _ _ _
      | exact spec_RowBehind.mono _ _ _ _ _
      | exact spec_RowPeriod.mono _ _ _ _
      | exact LeO.none _
      | refine LeO.ite ?_ ?_
      | refine LeO.bind ?_ (fun _ => ?_)
    · intro y0 y1 y2 y3 y4 y5
      unfold laws_FnRowsTellNullities.j6
      repeat' first
      | (with_reducible exact ih0 _ _ _ _ _ _ _ _)
      | (with_reducible exact ih1 _ _ _ _ _ _ _)
      | (with_reducible exact ih2 _ _)
      | (with_reducible exact ih3 _ _ _ _ _ _ _ _)
      | (with_reducible exact ih4 _ _ _ _ _ _ _)
      | (with_reducible exact ih5 _ _)
      | (with_reducible exact ih6 _ _ _ _ _ _)
      | (with_reducible exact ih7 _ _ _ _ _ _ _ _)
      | (with_reducible exact ih8 _ _ _ _)
      | (with_reducible exact ih9 _ _ _ _ _)
      | (with_reducible exact impl_GridGraph.mono _ _ _ _)
      | (with_reducible exact impl_NullitiesByRows.mono _ _ _ _)
      | (with_reducible exact laws_hSame.mono _ _ _)
      | (with_reducible exact spec_NullitiesByRows.mono _ _ _ _)
      | (with_reducible exact spec_NullityByRows.mono _ _ _ _)
      | (with_reducible exact spec_QuietRows.mono _ _ _ _ _)
      | (with_reducible exact spec_RowBehind.mono _ _ _ _ _)
      | (with_reducible exact spec_RowPeriod.mono _ _ _ _)
      | (with_reducible exact LeO.refl _)
      | (with_reducible exact LeO.none _)
      | (with_reducible refine LeO.ite ?_ ?_)
      | (with_reducible refine LeO.bind ?_ (fun _ => ?_))
      | exact ih0 _ _ _ _ _ _ _ _
      | exact ih1 _ _ _ _ _ _ _
      | exact ih2 _ _
      | exact ih3 _ _ _ _ _ _ _ _
      | exact ih4 _ _ _ _ _ _ _
      | exact ih5 _ _
      | exact ih6 _ _ _ _ _ _
      | exact ih7 _ _ _ _ _ _ _ _
      | exact ih8 _ _ _ _
      | exact ih9 _ _ _ _ _
      | exact impl_GridGraph.mono _ _ _ _
      | exact impl_NullitiesByRows.mono _ _ _ _
      | exact laws_hSame.mono _ _ _
      | exact spec_NullitiesByRows.mono _ _ _ _
      | exact spec_NullityByRows.mono _ _ _ _
      | exact spec_QuietRows.mono _ _ _ _ _
      | exact spec_RowBehind.mono _ _ _ _ _
      | exact spec_RowPeriod.mono _ _ _ _
      | exact LeO.none _
      | refine LeO.ite ?_ ?_
      | refine LeO.bind ?_ (fun _ => ?_)
    · intro y0 y1 y2 y3 y4 y5 y6 y7
      unfold laws_FnRowsTellNullities.l0
      repeat' first
      | (with_reducible exact ih0 _ _ _ _ _ _ _ _)
      | (with_reducible exact ih1 _ _ _ _ _ _ _)
      | (with_reducible exact ih2 _ _)
      | (with_reducible exact ih3 _ _ _ _ _ _ _ _)
      | (with_reducible exact ih4 _ _ _ _ _ _ _)
      | (with_reducible exact ih5 _ _)
      | (with_reducible exact ih6 _ _ _ _ _ _)
      | (with_reducible exact ih7 _ _ _ _ _ _ _ _)
      | (with_reducible exact ih8 _ _ _ _)
      | (with_reducible exact ih9 _ _ _ _ _)
      | (with_reducible exact impl_GridGraph.mono _ _ _ _)
      | (with_reducible exact impl_NullitiesByRows.mono _ _ _ _)
      | (with_reducible exact laws_hSame.mono _ _ _)
      | (with_reducible exact spec_NullitiesByRows.mono _ _ _ _)
      | (with_reducible exact spec_NullityByRows.mono _ _ _ _)
      | (with_reducible exact spec_QuietRows.mono _ _ _ _ _)
      | (with_reducible exact spec_RowBehind.mono _ _ _ _ _)
      | (with_reducible exact spec_RowPeriod.mono _ _ _ _)
      | (with_reducible exact LeO.refl _)
      | (with_reducible exact LeO.none _)
      | (with_reducible refine LeO.ite ?_ ?_)
      | (with_reducible refine LeO.bind ?_ (fun _ => ?_))
      | exact ih0 _ _ _ _ _ _ _ _
      | exact ih1 _ _ _ _ _ _ _
      | exact ih2 _ _
      | exact ih3 _ _ _ _ _ _ _ _
      | exact ih4 _ _ _ _ _ _ _
      | exact ih5 _ _
      | exact ih6 _ _ _ _ _ _
      | exact ih7 _ _ _ _ _ _ _ _
      | exact ih8 _ _ _ _
      | exact ih9 _ _ _ _ _
      | exact impl_GridGraph.mono _ _ _ _
      | exact impl_NullitiesByRows.mono _ _ _ _
      | exact laws_hSame.mono _ _ _
      | exact spec_NullitiesByRows.mono _ _ _ _
      | exact spec_NullityByRows.mono _ _ _ _
      | exact spec_QuietRows.mono _ _ _ _ _
      | exact spec_RowBehind.mono _ _ _ _ _
      | exact spec_RowPeriod.mono _ _ _ _
      | exact LeO.none _
      | refine LeO.ite ?_ ?_
      | refine LeO.bind ?_ (fun _ => ?_)
    · intro y0 y1 y2 y3
      unfold laws_FnRowsTellNullities.j8
      repeat' first
      | (with_reducible exact ih0 _ _ _ _ _ _ _ _)
      | (with_reducible exact ih1 _ _ _ _ _ _ _)
      | (with_reducible exact ih2 _ _)
      | (with_reducible exact ih3 _ _ _ _ _ _ _ _)
      | (with_reducible exact ih4 _ _ _ _ _ _ _)
      | (with_reducible exact ih5 _ _)
      | (with_reducible exact ih6 _ _ _ _ _ _)
      | (with_reducible exact ih7 _ _ _ _ _ _ _ _)
      | (with_reducible exact ih8 _ _ _ _)
      | (with_reducible exact ih9 _ _ _ _ _)
      | (with_reducible exact impl_GridGraph.mono _ _ _ _)
      | (with_reducible exact impl_NullitiesByRows.mono _ _ _ _)
      | (with_reducible exact laws_hSame.mono _ _ _)
      | (with_reducible exact spec_NullitiesByRows.mono _ _ _ _)
      | (with_reducible exact spec_NullityByRows.mono _ _ _ _)
      | (with_reducible exact spec_QuietRows.mono _ _ _ _ _)
      | (with_reducible exact spec_RowBehind.mono _ _ _ _ _)
      | (with_reducible exact spec_RowPeriod.mono _ _ _ _)
      | (with_reducible exact LeO.refl _)
      | (with_reducible exact LeO.none _)
      | (with_reducible refine LeO.ite ?_ ?_)
      | (with_reducible refine LeO.bind ?_ (fun _ => ?_))
      | exact ih0 _ _ _ _ _ _ _ _
      | exact ih1 _ _ _ _ _ _ _
      | exact ih2 _ _
      | exact ih3 _ _ _ _ _ _ _ _
      | exact ih4 _ _ _ _ _ _ _
      | exact ih5 _ _
      | exact ih6 _ _ _ _ _ _
      | exact ih7 _ _ _ _ _ _ _ _
      | exact ih8 _ _ _ _
      | exact ih9 _ _ _ _ _
      | exact impl_GridGraph.mono _ _ _ _
      | exact impl_NullitiesByRows.mono _ _ _ _
      | exact laws_hSame.mono _ _ _
      | exact spec_NullitiesByRows.mono _ _ _ _
      | exact spec_NullityByRows.mono _ _ _ _
      | exact spec_QuietRows.mono _ _ _ _ _
      | exact spec_RowBehind.mono _ _ _ _ _
      | exact spec_RowPeriod.mono _ _ _ _
      | exact LeO.none _
      | refine LeO.ite ?_ ?_
      | refine LeO.bind ?_ (fun _ => ?_)
    · intro y0 y1 y2 y3 y4
      unfold laws_FnRowsTellNullities.l1
      repeat' first
      | (with_reducible exact ih0 _ _ _ _ _ _ _ _)
      | (with_reducible exact ih1 _ _ _ _ _ _ _)
      | (with_reducible exact ih2 _ _)
      | (with_reducible exact ih3 _ _ _ _ _ _ _ _)
      | (with_reducible exact ih4 _ _ _ _ _ _ _)
      | (with_reducible exact ih5 _ _)
      | (with_reducible exact ih6 _ _ _ _ _ _)
      | (with_reducible exact ih7 _ _ _ _ _ _ _ _)
      | (with_reducible exact ih8 _ _ _ _)
      | (with_reducible exact ih9 _ _ _ _ _)
      | (with_reducible exact impl_GridGraph.mono _ _ _ _)
      | (with_reducible exact impl_NullitiesByRows.mono _ _ _ _)
      | (with_reducible exact laws_hSame.mono _ _ _)
      | (with_reducible exact spec_NullitiesByRows.mono _ _ _ _)
      | (with_reducible exact spec_NullityByRows.mono _ _ _ _)
      | (with_reducible exact spec_QuietRows.mono _ _ _ _ _)
      | (with_reducible exact spec_RowBehind.mono _ _ _ _ _)
      | (with_reducible exact spec_RowPeriod.mono _ _ _ _)
      | (with_reducible exact LeO.refl _)
      | (with_reducible exact LeO.none _)
      | (with_reducible refine LeO.ite ?_ ?_)
      | (with_reducible refine LeO.bind ?_ (fun _ => ?_))
      | exact ih0 _ _ _ _ _ _ _ _
      | exact ih1 _ _ _ _ _ _ _
      | exact ih2 _ _
      | exact ih3 _ _ _ _ _ _ _ _
      | exact ih4 _ _ _ _ _ _ _
      | exact ih5 _ _
      | exact ih6 _ _ _ _ _ _
      | exact ih7 _ _ _ _ _ _ _ _
      | exact ih8 _ _ _ _
      | exact ih9 _ _ _ _ _
      | exact impl_GridGraph.mono _ _ _ _
      | exact impl_NullitiesByRows.mono _ _ _ _
      | exact laws_hSame.mono _ _ _
      | exact spec_NullitiesByRows.mono _ _ _ _
      | exact spec_NullityByRows.mono _ _ _ _
      | exact spec_QuietRows.mono _ _ _ _ _
      | exact spec_RowBehind.mono _ _ _ _ _
      | exact spec_RowPeriod.mono _ _ _ _
      | exact LeO.none _
      | refine LeO.ite ?_ ?_
      | refine LeO.bind ?_ (fun _ => ?_)
theorem laws_FnRowsTellNullities.mono : ∀ a0 a1 k, LeO (laws_FnRowsTellNullities.f k a0 a1) (laws_FnRowsTellNullities.f (k + 1) a0 a1) := by
  intro a0 a1 k
  obtain ⟨ih0, ih1, ih2, ih3, ih4, ih5, ih6, ih7, ih8, ih9⟩ := laws_FnRowsTellNullities.mono_l k
  unfold laws_FnRowsTellNullities.f
  repeat' first
      | (with_reducible exact ih0 _ _ _ _ _ _ _ _)
      | (with_reducible exact ih1 _ _ _ _ _ _ _)
      | (with_reducible exact ih2 _ _)
      | (with_reducible exact ih3 _ _ _ _ _ _ _ _)
      | (with_reducible exact ih4 _ _ _ _ _ _ _)
      | (with_reducible exact ih5 _ _)
      | (with_reducible exact ih6 _ _ _ _ _ _)
      | (with_reducible exact ih7 _ _ _ _ _ _ _ _)
      | (with_reducible exact ih8 _ _ _ _)
      | (with_reducible exact ih9 _ _ _ _ _)
      | (with_reducible exact impl_GridGraph.mono _ _ _ _)
      | (with_reducible exact impl_NullitiesByRows.mono _ _ _ _)
      | (with_reducible exact laws_hSame.mono _ _ _)
      | (with_reducible exact spec_NullitiesByRows.mono _ _ _ _)
      | (with_reducible exact spec_NullityByRows.mono _ _ _ _)
      | (with_reducible exact spec_QuietRows.mono _ _ _ _ _)
      | (with_reducible exact spec_RowBehind.mono _ _ _ _ _)
      | (with_reducible exact spec_RowPeriod.mono _ _ _ _)
      | (with_reducible exact LeO.refl _)
      | (with_reducible exact LeO.none _)
      | (with_reducible refine LeO.ite ?_ ?_)
      | (with_reducible refine LeO.bind ?_ (fun _ => ?_))
      | exact ih0 _ _ _ _ _ _ _ _
      | exact ih1 _ _ _ _ _ _ _
      | exact ih2 _ _
      | exact ih3 _ _ _ _ _ _ _ _
      | exact ih4 _ _ _ _ _ _ _
      | exact ih5 _ _
      | exact ih6 _ _ _ _ _ _
      | exact ih7 _ _ _ _ _ _ _ _
      | exact ih8 _ _ _ _
      | exact ih9 _ _ _ _ _
      | exact impl_GridGraph.mono _ _ _ _
      | exact impl_NullitiesByRows.mono _ _ _ _
      | exact laws_hSame.mono _ _ _
      | exact spec_NullitiesByRows.mono _ _ _ _
      | exact spec_NullityByRows.mono _ _ _ _
      | exact spec_QuietRows.mono _ _ _ _ _
      | exact spec_RowBehind.mono _ _ _ _ _
      | exact spec_RowPeriod.mono _ _ _ _
      | exact LeO.none _
      | refine LeO.ite ?_ ?_
      | refine LeO.bind ?_ (fun _ => ?_)
set_option maxHeartbeats 8000000 in
set_option maxRecDepth 100000 in
theorem laws_FnRowsTellNullities.calls (k : Nat) (A0 : Option Addr) (c0 : Nat) (l0 : List Int) (A1 : Option Addr) (c1 : Nat) (l1 : List Int) (r : Bool) (w : World) (hr0 : Kd.C (Kd.int .u8) w A0 l0.length l0) (hc0 : l0.length ≤ c0) (hr1 : Kd.C (Kd.int .u8) w A1 l1.length l1) (hc1 : l1.length ≤ c1) (h : laws_FnRowsTellNullities.f k l0 l1 = some r) (hr_ : r = true) :
  Calls Try.prog 5 #[.slice A0 l0.length c0, .slice A1 l1.length c1] w fun e w' => e = .returned (.bool r) ∧ Below w.heap.size w w' := by
 have HR_ := Aside0.mk hr_
 clear hr_
 have hu36 := Try.underlying36
 have HR0 := Aside0.mk hr0
 have HC0 := Aside0.mk hc0
 clear hr0 hc0
 have HR1 := Aside0.mk hr1
 have HC1 := Aside0.mk hc1
 clear hr1 hc1
 have HB := Aside0.mk (Below.refl w.heap.size w)
 have H : ((laws_big.f l0 l1).bind fun t202 => (if t202 = true then (some true) else ((spec_DrawNullityByRows.f l0).bind fun bt203 => ((impl_NullityByRows.f bt203.1 bt203.2.1 bt203.2.2).bind fun bt206 => ((spec_NullityByRows.f k bt203.1 bt203.2.1 bt203.2.2).bind fun bt208 => (if (bt206.2 != bt208.2) = true then (laws_FnRowsTellNullities.j0 k l0 l1 bt203.1 bt203.2.1 bt203.2.2 bt206.1 bt206.2 true) else (laws_FnRowsTellNullities.j0 k l0 l1 bt203.1 bt203.2.1 bt203.2.2 bt206.1 bt206.2 (bt206.1 != bt208.1)))))))) = some r := h
 clear h
 replace H := Option.bind_eq_some_iff.mp H
 obtain ⟨t202, A30, H⟩ := H
 replace H : (if t202 = true then (some true) else ((spec_DrawNullityByRows.f l0).bind fun bt203 => ((impl_NullityByRows.f bt203.1 bt203.2.1 bt203.2.2).bind fun bt206 => ((spec_NullityByRows.f k bt203.1 bt203.2.1 bt203.2.2).bind fun bt208 => (if (bt206.2 != bt208.2) = true then (laws_FnRowsTellNullities.j0 k l0 l1 bt203.1 bt203.2.1 bt203.2.2 bt206.1 bt206.2 true) else (laws_FnRowsTellNullities.j0 k l0 l1 bt203.1 bt203.2.1 bt203.2.2 bt206.1 bt206.2 (bt206.1 != bt208.1))))))) = some r := H
 have A3 := Aside0.mk A30
 clear A30
 by_cases c4 : t202 = true
 ·
  subst c4
  have H1 : (some true) = some r := by rw [if_pos rfl] at H; exact H
  clear H
  have H := H1
  clear H1
  first
  | exact absurd (H.trans (congrArg some HR_.out)) (by decide)
  |
   obtain rfl := Option.some.inj H
   go_enter Try.func5, Try.ntmps5
   go_wp2_with (first | ((with_reducible refine gate_callee (f := 6) rfl ?_); refine goesL_ (some 66) rfl rfl Try.func6 (by kernel_rfl) rfl #[.slice A0 l0.length c0, .slice A1 l1.length c1] rfl (by (try simp only [List.map_toArray, List.map_cons, List.map_nil]); first | done | rfl | (simp only [List.length_drop, List.length_take]; rfl)) ?_; (with_reducible refine (laws_big.calls _ _ l0 _ _ l1 true _ ?side1 ?side2 ?side3 ?side4 A3.out).mono ?_); (case side1 => repeat (first | exact HR0.out | (with_reducible refine Kd.C_alloc ?_ _) | (with_reducible refine Kd.C_drewN ?_ _) | (with_reducible refine Kd.C_drew ?_))); (case side2 => exact HC0.out); (case side3 => repeat (first | exact HR1.out | (with_reducible refine Kd.C_alloc ?_ _) | (with_reducible refine Kd.C_drewN ?_ _) | (with_reducible refine Kd.C_drew ?_))); (case side4 => exact HC1.out); rintro e w' ⟨rfl, ⟨nd, rfl⟩⟩; refine ⟨_, rfl, ?_⟩))
   go_ret
   exact ⟨by first | rfl | (simp [errW_none, errW_some] <;> rfl) | (simp [*, errW_none, errW_some] <;> rfl), by repeat (first | (with_reducible first | exact HB.out | apply below_alloc | apply pw_below_drewN | apply below_drew1) | exact HB.out)⟩
 ·
  replace c4 := Bool.eq_false_iff.mpr c4
  subst c4
  have H1 : ((spec_DrawNullityByRows.f l0).bind fun bt203 => ((impl_NullityByRows.f bt203.1 bt203.2.1 bt203.2.2).bind fun bt206 => ((spec_NullityByRows.f k bt203.1 bt203.2.1 bt203.2.2).bind fun bt208 => (if (bt206.2 != bt208.2) = true then (laws_FnRowsTellNullities.j0 k l0 l1 bt203.1 bt203.2.1 bt203.2.2 bt206.1 bt206.2 true) else (laws_FnRowsTellNullities.j0 k l0 l1 bt203.1 bt203.2.1 bt203.2.2 bt206.1 bt206.2 (bt206.1 != bt208.1)))))) = some r := by rw [if_neg (show ¬ (false = true) by decide)] at H; exact H
  clear H
  have H := H1
  clear H1
  replace H := Option.bind_eq_some_iff.mp H
  obtain ⟨⟨t203, t204, t205⟩, A50, H⟩ := H
  replace H : ((impl_NullityByRows.f t203 t204 t205).bind fun bt206 => ((spec_NullityByRows.f k t203 t204 t205).bind fun bt208 => (if (bt206.2 != bt208.2) = true then (laws_FnRowsTellNullities.j0 k l0 l1 t203 t204 t205 bt206.1 bt206.2 true) else (laws_FnRowsTellNullities.j0 k l0 l1 t203 t204 t205 bt206.1 bt206.2 (bt206.1 != bt208.1))))) = some r := H
  have A5 := Aside0.mk A50
  clear A50
  replace H := Option.bind_eq_some_iff.mp H
  obtain ⟨⟨t206, t207⟩, A60, H⟩ := H
  replace H : ((spec_NullityByRows.f k t203 t204 t205).bind fun bt208 => (if (t207 != bt208.2) = true then (laws_FnRowsTellNullities.j0 k l0 l1 t203 t204 t205 t206 t207 true) else (laws_FnRowsTellNullities.j0 k l0 l1 t203 t204 t205 t206 t207 (t206 != bt208.1)))) = some r := H
  have A6 := Aside0.mk A60
  clear A60
  replace H := Option.bind_eq_some_iff.mp H
  obtain ⟨⟨t208, t209⟩, A70, H⟩ := H
  replace H : (if (t207 != t209) = true then (laws_FnRowsTellNullities.j0 k l0 l1 t203 t204 t205 t206 t207 true) else (laws_FnRowsTellNullities.j0 k l0 l1 t203 t204 t205 t206 t207 (t206 != t208))) = some r := H
  have A7 := Aside0.mk A70
  clear A70
  have HC8 := Aside0.mk H
  clear H
  go_enter Try.func5, Try.ntmps5
  go_upto_region 6 with (first | ((with_reducible refine gate_callee (f := 6) rfl ?_); refine goesL_ (some 66) rfl rfl Try.func6 (by kernel_rfl) rfl #[.slice A0 l0.length c0, .slice A1 l1.length c1] rfl (by (try simp only [List.map_toArray, List.map_cons, List.map_nil]); first | done | rfl | (simp only [List.length_drop, List.length_take]; rfl)) ?_; (with_reducible refine (laws_big.calls _ _ l0 _ _ l1 false _ ?side1 ?side2 ?side3 ?side4 A3.out).mono ?_); (case side1 => repeat (first | exact HR0.out | (with_reducible refine Kd.C_alloc ?_ _) | (with_reducible refine Kd.C_drewN ?_ _) | (with_reducible refine Kd.C_drew ?_))); (case side2 => exact HC0.out); (case side3 => repeat (first | exact HR1.out | (with_reducible refine Kd.C_alloc ?_ _) | (with_reducible refine Kd.C_drewN ?_ _) | (with_reducible refine Kd.C_drew ?_))); (case side4 => exact HC1.out); rintro e w' ⟨rfl, ⟨nd, rfl⟩⟩; refine ⟨_, rfl, ?_⟩) | ((with_reducible refine gate_callee (f := 29) rfl ?_); refine goesL_ (some 69) rfl rfl Try.func29 (by kernel_rfl) rfl #[.slice A0 l0.length c0] rfl (by (try simp only [List.map_toArray, List.map_cons, List.map_nil]); first | done | rfl | (simp only [List.length_drop, List.length_take]; rfl)) ?_; (with_reducible refine (spec_DrawNullityByRows.calls _ _ l0 t203 t204 t205 _ ?side1 ?side2 A5.out).mono ?_); (case side1 => repeat (first | exact HR0.out | (with_reducible refine Kd.C_alloc ?_ _) | (with_reducible refine Kd.C_drewN ?_ _) | (with_reducible refine Kd.C_drew ?_))); (case side2 => exact HC0.out); rintro e w9 ⟨rfl, hb⟩; refine ⟨_, rfl, ?_⟩; have n0_ := Aside0.mk (below_step (by repeat (first | (with_reducible first | exact HB.out | apply below_alloc | apply pw_below_drewN | apply below_drew1) | exact HB.out)) hb); clear HB; have HB := n0_; clear n0_; (try clear hb); (try clear hb2); (try clear hk); (try clear hi)) | ((with_reducible refine gate_callee (f := 15) rfl ?_); refine goesL_ (some 77) rfl rfl Try.func15 (by kernel_rfl) rfl #[.int .i64 t203, .int .i64 t204, .bool t205] rfl (by (try simp only [List.map_toArray, List.map_cons, List.map_nil]); first | done | rfl | (simp only [List.length_drop, List.length_take]; rfl)) ?_; (with_reducible refine (impl_NullityByRows.calls t203 t204 t205 t206 t207 _ A6.out).mono ?_); rintro e w10 ⟨rfl, hb⟩; refine ⟨_, rfl, ?_⟩; have n0_ := Aside0.mk (below_step (by repeat (first | (with_reducible first | exact HB.out | apply below_alloc | apply pw_below_drewN | apply below_drew1) | exact HB.out)) hb); clear HB; have HB := n0_; clear n0_; (try clear hb); (try clear hb2); (try clear hk); (try clear hi)) | ((with_reducible refine gate_callee (f := 30) rfl ?_); refine goesL_ (some 84) rfl rfl Try.func30 (by kernel_rfl) rfl #[.int .i64 t203, .int .i64 t204, .bool t205] rfl (by (try simp only [List.map_toArray, List.map_cons, List.map_nil]); first | done | rfl | (simp only [List.length_drop, List.length_take]; rfl)) ?_; (with_reducible refine (spec_NullityByRows.calls k t203 t204 t205 t208 t209 _ A7.out).mono ?_); rintro e w' ⟨rfl, ⟨nd, rfl⟩⟩; refine ⟨_, rfl, ?_⟩))
  (try simp only [Act.put, List.setIfInBounds_toArray, List.set_cons_zero, List.set_cons_succ])
  go_cut [94] (fun v94 wc => ∃ (kq : Nat) (x94_7 : Bool), v94 = .bool x94_7 ∧ Aside0 (laws_FnRowsTellNullities.j0 kq l0 l1 t203 t204 t205 t206 t207 x94_7 = some r) ∧ Aside0 (kq ≤ k) ∧ Aside0 (Below w.heap.size w wc))
  case first => as_aux_lemma =>
   have H := HC8.out
   clear HC8
   by_cases c11 : (t207 != t209) = true
   ·
    rw [if_pos c11] at H
    have c11b0 : (t207 != t209) = true := c11
    (try (have c11b1 : decide (t207 = t209) = false := by simpa using c11))
    (try (have c11b2 : (t207 == t209) = false := by simpa using c11))
    (try (have c11b3 : ¬ (t207 = t209) := by simpa using c11))
    clear c11
    (first | rw [c11b0] | (simp only [i64_w, i32_w]; rw [c11b0]) | skip)
    first
    | exact absurd (H.trans (congrArg some HR_.out)) (by cases k <;> simp [laws_FnRowsTellNullities.j0])
    |
     have H' := Aside0.mk H
     clear H
     go_wp2
     go_meet
     case rel => exact ⟨_, (true), (by first | rfl | (simp; done) | (simp [*]; done)), H', ⟨by first | omega | exact Nat.le_refl _⟩, ⟨by repeat (first | (with_reducible first | exact HB.out | apply below_alloc | apply pw_below_drewN | apply below_drew1) | exact HB.out)⟩⟩
   ·
    rw [if_neg c11] at H
    have c11b0 : (t207 != t209) = false := by simpa using c11
    (try (have c11b1 : decide (t207 = t209) = true := by simpa using c11))
    (try (have c11b2 : (t207 == t209) = true := by simpa using c11))
    clear c11
    (first | rw [c11b0] | (simp only [i64_w, i32_w]; rw [c11b0]) | skip)
    have H' := Aside0.mk H
    clear H
    go_wp2
    go_meet
    case rel => exact ⟨_, ((t206 != t208)), (by first | rfl | (simp; done) | (simp [*]; done) | (simp; cases t206 <;> simp)), H', ⟨by first | omega | exact Nat.le_refl _⟩, ⟨by repeat (first | (with_reducible first | exact HB.out | apply below_alloc | apply pw_below_drewN | apply below_drew1) | exact HB.out)⟩⟩
  case rest => as_aux_lemma =>
   clear HC8
   try clear c1
   try clear c2
   try clear p2
   try clear c3
   try clear c4
   try clear c5
   try clear c6
   try clear c11
   try clear c11b0
   try clear c11b1
   try clear c11b2
   obtain ⟨kq, x94_7, rfl, HA, HJ7, HB⟩ := hcut
   cases kq with
   | zero => exact absurd HA.out (by simp [laws_FnRowsTellNullities.j0])
   | succ kj7 =>
    have H := HA.out
    clear HA
    simp only [laws_FnRowsTellNullities.j0] at H
    by_cases c12 : x94_7 = true
    ·
     subst c12
     have H1 : (some false) = some r := by rw [if_pos rfl] at H; exact H
     clear H
     have H := H1
     clear H1
     first
     | exact absurd (H.trans (congrArg some HR_.out)) (by decide)
     |
      obtain rfl := Option.some.inj H
      go_wp2
      go_ret
      exact ⟨by first | rfl | (simp [errW_none, errW_some] <;> rfl) | (simp [*, errW_none, errW_some] <;> rfl), by repeat (first | (with_reducible first | exact HB.out | apply below_alloc | apply pw_below_drewN | apply below_drew1) | exact HB.out)⟩
    ·
     replace c12 := Bool.eq_false_iff.mpr c12
     subst c12
     have H1 : (if t207 = true then (laws_FnRowsTellNullities.j1 kj7 l0 l1 t203 t204 t205 t206 (decide ((wrap64 (t203 * t204)) ≤ 16))) else (laws_FnRowsTellNullities.j1 kj7 l0 l1 t203 t204 t205 t206 false)) = some r := by rw [if_neg (show ¬ (false = true) by decide)] at H; exact H
     clear H
     have H := H1
     clear H1
     have HC13 := Aside0.mk H
     clear H
     go_upto_region 8 with (fail)
     go_cut [101] (fun v101 wc => ∃ (kq : Nat) (x101_12 : Bool), v101 = .bool x101_12 ∧ Aside0 (laws_FnRowsTellNullities.j1 kq l0 l1 t203 t204 t205 t206 x101_12 = some r) ∧ Aside0 (kq ≤ kj7) ∧ Aside0 (Below w.heap.size w wc))
     case first => as_aux_lemma =>
      have H := HC13.out
      clear HC13
      by_cases c14 : t207 = true
      ·
       subst c14
       have H1 : (laws_FnRowsTellNullities.j1 kj7 l0 l1 t203 t204 t205 t206 (decide ((wrap64 (t203 * t204)) ≤ 16))) = some r := by rw [if_pos rfl] at H; exact H
       clear H
       have H := H1
       clear H1
       have H' := Aside0.mk H
       clear H
       go_wp2
       go_meet
       case rel => exact ⟨_, (decide ((wrap64 (t203 * t204)) ≤ 16)), (by first | rfl | (simp; done) | (simp [*]; done)), H', ⟨by have := HJ7.out; first | omega | exact Nat.le_refl _⟩, ⟨by repeat (first | (with_reducible first | exact HB.out | apply below_alloc | apply pw_below_drewN | apply below_drew1) | exact HB.out)⟩⟩
      ·
       replace c14 := Bool.eq_false_iff.mpr c14
       subst c14
       have H1 : (laws_FnRowsTellNullities.j1 kj7 l0 l1 t203 t204 t205 t206 false) = some r := by rw [if_neg (show ¬ (false = true) by decide)] at H; exact H
       clear H
       have H := H1
       clear H1
       have H' := Aside0.mk H
       clear H
       go_wp2
       go_meet
       case rel => exact ⟨_, (false), (by first | rfl | (simp; done) | (simp [*]; done)), H', ⟨by have := HJ7.out; first | omega | exact Nat.le_refl _⟩, ⟨by repeat (first | (with_reducible first | exact HB.out | apply below_alloc | apply pw_below_drewN | apply below_drew1) | exact HB.out)⟩⟩
     case rest => as_aux_lemma =>
      clear HC13
      try clear c1
      try clear c2
      try clear p2
      try clear c3
      try clear c4
      try clear c5
      try clear c6
      try clear p6
      try clear c11
      try clear c11b0
      try clear c11b1
      try clear c11b2
      try clear c12
      try clear c14
      try clear p2
      obtain ⟨kq, x101_12, rfl, HA, HJ12, HB⟩ := hcut
      cases kq with
      | zero => exact absurd HA.out (by simp [laws_FnRowsTellNullities.j1])
      | succ kj12 =>
       have H := HA.out
       clear HA
       simp only [laws_FnRowsTellNullities.j1] at H
       have HC15 := Aside0.mk H
       clear H
       go_upto_if 101 with (fail)
       go_cut [] (fun wc => ∃ (kq : Nat), Aside0 (laws_FnRowsTellNullities.j2 kq l0 l1 = some r) ∧ Aside0 (kq ≤ kj12) ∧ Aside0 (Below w.heap.size w wc))
       case first => as_aux_lemma =>
        have H := HC15.out
        clear HC15
        by_cases c16 : x101_12 = true
        ·
         subst c16
         have H1 : ((impl_GridGraph.f kj12 t203 t204 t205).bind fun bt210 => ((impl_NullityOf.f bt210.1 bt210.2.1).bind fun bt216 => (if bt210.2.2 = true then (if bt216.2 = true then (if bt216.1 = t206 then (laws_FnRowsTellNullities.j2 kj12 l0 l1) else (some false)) else (some false)) else (some false)))) = some r := by rw [if_pos rfl] at H; exact H
         clear H
         have H := H1
         clear H1
         replace H := Option.bind_eq_some_iff.mp H
         obtain ⟨⟨t210, t213, t214⟩, A170, H⟩ := H
         replace H : ((impl_NullityOf.f t210 t213).bind fun bt216 => (if t214 = true then (if bt216.2 = true then (if bt216.1 = t206 then (laws_FnRowsTellNullities.j2 kj12 l0 l1) else (some false)) else (some false)) else (some false))) = some r := H
         have A17 := Aside0.mk A170
         clear A170
         replace H := Option.bind_eq_some_iff.mp H
         obtain ⟨⟨t216, t217⟩, A180, H⟩ := H
         replace H : (if t214 = true then (if t217 = true then (if t216 = t206 then (laws_FnRowsTellNullities.j2 kj12 l0 l1) else (some false)) else (some false)) else (some false)) = some r := H
         have A18 := Aside0.mk A180
         clear A180
         by_cases c19 : t214 = true
         ·
          subst c19
          have H1 : (if t217 = true then (if t216 = t206 then (laws_FnRowsTellNullities.j2 kj12 l0 l1) else (some false)) else (some false)) = some r := by rw [if_pos rfl] at H; exact H
          clear H
          have H := H1
          clear H1
          by_cases c20 : t217 = true
          ·
           subst c20
           have H1 : (if t216 = t206 then (laws_FnRowsTellNullities.j2 kj12 l0 l1) else (some false)) = some r := by rw [if_pos rfl] at H; exact H
           clear H
           have H := H1
           clear H1
           by_cases c21 : t216 = t206
           ·
            rw [if_pos c21] at H
            have c21b0 : (t216 == t206) = true := beq_iff_eq.mpr c21
            have c21b1 : (t216 != t206) = false := bne_eq_false_iff_eq.mpr c21
            clear c21
            (first | rw [c21b0] | (simp only [i64_w, i32_w]; rw [c21b0]) | skip)
            have H' := Aside0.mk H
            clear H
            go_wp2_with (first | ((with_reducible refine gate_callee (f := 20) rfl ?_); refine goesL_ (some 106) rfl rfl Try.func20 (by kernel_rfl) rfl #[.int .i64 t203, .int .i64 t204, .bool t205] rfl (by (try simp only [List.map_toArray, List.map_cons, List.map_nil]); first | done | rfl | (simp only [List.length_drop, List.length_take]; rfl)) ?_; (with_reducible refine (impl_GridGraph.calls kj12 t203 t204 t205 t210 t213 true _ A17.out).mono ?_); rintro e w22 ⟨v211, rfl, ho0, hb⟩; refine ⟨_, rfl, ?_⟩; have n0_ := Aside0.mk (Kd.R_lower ho0 (below_size (by repeat (first | (with_reducible first | exact HB.out | apply below_alloc | apply pw_below_drewN | apply below_drew1) | exact HB.out)))); have n1_ := Aside0.mk (below_step (by repeat (first | (with_reducible first | exact HB.out | apply below_alloc | apply pw_below_drewN | apply below_drew1) | exact HB.out)) hb); clear HB; have HO212 := n0_; have HB := n1_; clear n0_ n1_; (try clear hb); (try clear hb2); (try clear hk); (try clear hi); (try clear ho0)) | ((with_reducible refine gate_dst (N := 12) rfl ?_); refine box_event ?hg (N := 12) ?hd (cs := #[.slice none 0 0, .bool false]) (t := 36) ?hr ?_; (case hd => rfl); (case hg => rfl); (case hr => first | (go_simp; done) | (go_simp; rfl)); intro gb215 hg w23 hbox hb; have n0_ := Aside0.mk (Kd.R_below (by (with_reducible repeat (first | apply Kd.R_alloc | apply Kd.R_drewN | apply Kd.R_drew)); exact HO212.out) hb); have n1_ := Aside0.mk (below_step (by repeat (first | (with_reducible first | exact HB.out | apply below_alloc | apply pw_below_drewN | apply below_drew1) | exact HB.out)) hb); have n2_ := Aside0.mk (hbox); have n3_ := Aside0.mk ((by rw [hg]; exact (below_size (by repeat (first | (with_reducible first | exact HB.out | apply below_alloc | apply pw_below_drewN | apply below_drew1) | exact HB.out))) : w.heap.size ≤ gb215)); have n4_ := Aside0.mk ((by rw [hg]; exact (below_size (by repeat (first | (with_reducible first | exact HB.out | apply below_alloc | apply pw_below_drewN | apply below_drew1) | exact HB.out))) : w.heap.size ≤ gb215)); clear HO212; clear HB; have HO212 := n0_; have HB := n1_; have BK215 := n2_; have GW215 := n3_; have GE215 := n4_; clear n0_ n1_ n2_ n3_ n4_; clear hb hbox hg; obtain ⟨Ao24, co24, eo24⟩ := Kd.R_slice HO212.out; subst eo24; have hcz25_0 : w23.cell? ⟨gb215, 0, none⟩ = some (.slice none 0 0) := (blk_cell BK215.out 0).trans rfl; have hcz25_1 : w23.cell? ⟨gb215, 1, none⟩ = some (.bool false) := (blk_cell BK215.out 1).trans rfl; have hfz25_0 := blk_frozen BK215.out 0; have hfz25_1 := blk_frozen BK215.out 1) | ((with_reducible refine gate_callee (f := 31) rfl ?_); refine goesL_ (some 111) rfl rfl Try.func31 (by kernel_rfl) rfl #[.agg #[.slice Ao24 t210.length co24, .bool t213]] rfl (by (try simp only [List.map_toArray, List.map_cons, List.map_nil]); first | done | rfl | (simp only [List.length_drop, List.length_take]; rfl)) ?_; (with_reducible refine (impl_NullityOf.calls _ _ t210 t213 t216 true _ ?side1 ?side2 A18.out).mono ?_); (case side1 => refine (Kd.R_reads' (e := 3) (base := w.heap.size) (ok := fun k_ => True) (n := t210.length) (c := co24) ?_).2.2; exact (by (with_reducible repeat (first | apply Kd.R_alloc | apply Kd.R_drewN | apply Kd.R_drew)); exact (Kd.R_mono (Kd.R_far (p := ⟨gb215, 1, none⟩) (Kd.R_far (p := ⟨gb215, 0, none⟩) (Kd.R_types HO212.out BK215.out (by decide)) (fun _ hk => hk.2) (.slice Ao24 t210.length co24)) (fun _ hk => hk.2) (.bool t213)) (fun _ h_ => h_.1)))); (case side2 => exact (Kd.R_reads' HO212.out).2.1); rintro e w26 ⟨rfl, hb⟩; refine ⟨_, rfl, ?_⟩; have n0_ := Aside0.mk (Kd.R_below (by (with_reducible repeat (first | apply Kd.R_alloc | apply Kd.R_drewN | apply Kd.R_drew)); exact (Kd.R_mono (Kd.R_far (p := ⟨gb215, 1, none⟩) (Kd.R_far (p := ⟨gb215, 0, none⟩) (Kd.R_types HO212.out BK215.out (by decide)) (fun _ hk => hk.2) (.slice Ao24 t210.length co24)) (fun _ hk => hk.2) (.bool t213)) (fun _ h_ => h_.1))) hb); have n1_ := Aside0.mk (blk_below (g := gb215) (o := .cells #[.slice Ao24 t210.length co24, .bool t213] 36 (0, 0)) (by (with_reducible repeat (first | refine blk_drewN ?_ _ | refine blk_drew ?_ | refine blk_alloc ?_ _)); refine blk_put (cs := #[.slice Ao24 t210.length co24, .bool false]) ?_ 1 _ rfl; (with_reducible repeat (first | refine blk_drewN ?_ _ | refine blk_drew ?_ | refine blk_alloc ?_ _)); refine blk_put (cs := #[.slice none 0 0, .bool false]) ?_ 0 _ rfl; (with_reducible repeat (first | refine blk_drewN ?_ _ | refine blk_drew ?_ | refine blk_alloc ?_ _)); exact BK215.out) hb); have n2_ := Aside0.mk (below_step (by repeat (first | (with_reducible first | exact HB.out | apply below_alloc | apply pw_below_drewN | apply below_drew1 | refine below_set ?_ GE215.out) | exact HB.out)) hb); clear HO212; clear BK215; clear HB; have HO212 := n0_; have BK215 := n1_; have HB := n2_; clear n0_ n1_ n2_; (try clear hb); (try clear hb2); (try clear hk); (try clear hi)))
            go_meet
            case rel => exact ⟨_, H', ⟨by have := HJ7.out; have := HJ12.out; first | omega | exact Nat.le_refl _⟩, ⟨by repeat (first | (with_reducible first | exact HB.out | apply below_alloc | apply pw_below_drewN | apply below_drew1 | refine below_set ?_ GE215.out) | exact HB.out)⟩⟩
           ·
            rw [if_neg c21] at H
            have c21b0 : (t216 == t206) = false := beq_eq_false_iff_ne.mpr c21
            have c21b1 : (t216 != t206) = true := bne_iff_ne.mpr c21
            (first | rw [c21b0] | (simp only [i64_w, i32_w]; rw [c21b0]) | skip)
            first
            | exact absurd (H.trans (congrArg some HR_.out)) (by decide)
            |
             obtain rfl := Option.some.inj H
             go_wp2_with (first | ((with_reducible refine gate_callee (f := 20) rfl ?_); refine goesL_ (some 106) rfl rfl Try.func20 (by kernel_rfl) rfl #[.int .i64 t203, .int .i64 t204, .bool t205] rfl (by (try simp only [List.map_toArray, List.map_cons, List.map_nil]); first | done | rfl | (simp only [List.length_drop, List.length_take]; rfl)) ?_; (with_reducible refine (impl_GridGraph.calls kj12 t203 t204 t205 t210 t213 true _ A17.out).mono ?_); rintro e w27 ⟨v211, rfl, ho0, hb⟩; refine ⟨_, rfl, ?_⟩; have n0_ := Aside0.mk (Kd.R_lower ho0 (below_size (by repeat (first | (with_reducible first | exact HB.out | apply below_alloc | apply pw_below_drewN | apply below_drew1) | exact HB.out)))); have n1_ := Aside0.mk (below_step (by repeat (first | (with_reducible first | exact HB.out | apply below_alloc | apply pw_below_drewN | apply below_drew1) | exact HB.out)) hb); clear HB; have HO212 := n0_; have HB := n1_; clear n0_ n1_; (try clear hb); (try clear hb2); (try clear hk); (try clear hi); (try clear ho0)) | ((with_reducible refine gate_dst (N := 12) rfl ?_); refine box_event ?hg (N := 12) ?hd (cs := #[.slice none 0 0, .bool false]) (t := 36) ?hr ?_; (case hd => rfl); (case hg => rfl); (case hr => first | (go_simp; done) | (go_simp; rfl)); intro gb215 hg w28 hbox hb; have n0_ := Aside0.mk (Kd.R_below (by (with_reducible repeat (first | apply Kd.R_alloc | apply Kd.R_drewN | apply Kd.R_drew)); exact HO212.out) hb); have n1_ := Aside0.mk (below_step (by repeat (first | (with_reducible first | exact HB.out | apply below_alloc | apply pw_below_drewN | apply below_drew1) | exact HB.out)) hb); have n2_ := Aside0.mk (hbox); have n3_ := Aside0.mk ((by rw [hg]; exact (below_size (by repeat (first | (with_reducible first | exact HB.out | apply below_alloc | apply pw_below_drewN | apply below_drew1) | exact HB.out))) : w.heap.size ≤ gb215)); have n4_ := Aside0.mk ((by rw [hg]; exact (below_size (by repeat (first | (with_reducible first | exact HB.out | apply below_alloc | apply pw_below_drewN | apply below_drew1) | exact HB.out))) : w.heap.size ≤ gb215)); clear HO212; clear HB; have HO212 := n0_; have HB := n1_; have BK215 := n2_; have GW215 := n3_; have GE215 := n4_; clear n0_ n1_ n2_ n3_ n4_; clear hb hbox hg; obtain ⟨Ao29, co29, eo29⟩ := Kd.R_slice HO212.out; subst eo29; have hcz30_0 : w28.cell? ⟨gb215, 0, none⟩ = some (.slice none 0 0) := (blk_cell BK215.out 0).trans rfl; have hcz30_1 : w28.cell? ⟨gb215, 1, none⟩ = some (.bool false) := (blk_cell BK215.out 1).trans rfl; have hfz30_0 := blk_frozen BK215.out 0; have hfz30_1 := blk_frozen BK215.out 1) | ((with_reducible refine gate_callee (f := 31) rfl ?_); refine goesL_ (some 111) rfl rfl Try.func31 (by kernel_rfl) rfl #[.agg #[.slice Ao29 t210.length co29, .bool t213]] rfl (by (try simp only [List.map_toArray, List.map_cons, List.map_nil]); first | done | rfl | (simp only [List.length_drop, List.length_take]; rfl)) ?_; (with_reducible refine (impl_NullityOf.calls _ _ t210 t213 t216 true _ ?side1 ?side2 A18.out).mono ?_); (case side1 => refine (Kd.R_reads' (e := 3) (base := w.heap.size) (ok := fun k_ => True) (n := t210.length) (c := co29) ?_).2.2; exact (by (with_reducible repeat (first | apply Kd.R_alloc | apply Kd.R_drewN | apply Kd.R_drew)); exact (Kd.R_mono (Kd.R_far (p := ⟨gb215, 1, none⟩) (Kd.R_far (p := ⟨gb215, 0, none⟩) (Kd.R_types HO212.out BK215.out (by decide)) (fun _ hk => hk.2) (.slice Ao29 t210.length co29)) (fun _ hk => hk.2) (.bool t213)) (fun _ h_ => h_.1)))); (case side2 => exact (Kd.R_reads' HO212.out).2.1); rintro e w31 ⟨rfl, hb⟩; refine ⟨_, rfl, ?_⟩; have n0_ := Aside0.mk (Kd.R_below (by (with_reducible repeat (first | apply Kd.R_alloc | apply Kd.R_drewN | apply Kd.R_drew)); exact (Kd.R_mono (Kd.R_far (p := ⟨gb215, 1, none⟩) (Kd.R_far (p := ⟨gb215, 0, none⟩) (Kd.R_types HO212.out BK215.out (by decide)) (fun _ hk => hk.2) (.slice Ao29 t210.length co29)) (fun _ hk => hk.2) (.bool t213)) (fun _ h_ => h_.1))) hb); have n1_ := Aside0.mk (blk_below (g := gb215) (o := .cells #[.slice Ao29 t210.length co29, .bool t213] 36 (0, 0)) (by (with_reducible repeat (first | refine blk_drewN ?_ _ | refine blk_drew ?_ | refine blk_alloc ?_ _)); refine blk_put (cs := #[.slice Ao29 t210.length co29, .bool false]) ?_ 1 _ rfl; (with_reducible repeat (first | refine blk_drewN ?_ _ | refine blk_drew ?_ | refine blk_alloc ?_ _)); refine blk_put (cs := #[.slice none 0 0, .bool false]) ?_ 0 _ rfl; (with_reducible repeat (first | refine blk_drewN ?_ _ | refine blk_drew ?_ | refine blk_alloc ?_ _)); exact BK215.out) hb); have n2_ := Aside0.mk (below_step (by repeat (first | (with_reducible first | exact HB.out | apply below_alloc | apply pw_below_drewN | apply below_drew1 | refine below_set ?_ GE215.out) | exact HB.out)) hb); clear HO212; clear BK215; clear HB; have HO212 := n0_; have BK215 := n1_; have HB := n2_; clear n0_ n1_ n2_; (try clear hb); (try clear hb2); (try clear hk); (try clear hi)))
             go_ret
             exact ⟨by first | rfl | (simp [errW_none, errW_some] <;> rfl) | (simp [*, errW_none, errW_some] <;> rfl), by repeat (first | (with_reducible first | exact HB.out | apply below_alloc | apply pw_below_drewN | apply below_drew1 | refine below_set ?_ GE215.out) | exact HB.out)⟩
          ·
           replace c20 := Bool.eq_false_iff.mpr c20
           subst c20
           have H1 : (some false) = some r := by rw [if_neg (show ¬ (false = true) by decide)] at H; exact H
           clear H
           have H := H1
           clear H1
           first
           | exact absurd (H.trans (congrArg some HR_.out)) (by decide)
           |
            obtain rfl := Option.some.inj H
            go_wp2_with (first | ((with_reducible refine gate_callee (f := 20) rfl ?_); refine goesL_ (some 106) rfl rfl Try.func20 (by kernel_rfl) rfl #[.int .i64 t203, .int .i64 t204, .bool t205] rfl (by (try simp only [List.map_toArray, List.map_cons, List.map_nil]); first | done | rfl | (simp only [List.length_drop, List.length_take]; rfl)) ?_; (with_reducible refine (impl_GridGraph.calls kj12 t203 t204 t205 t210 t213 true _ A17.out).mono ?_); rintro e w32 ⟨v211, rfl, ho0, hb⟩; refine ⟨_, rfl, ?_⟩; have n0_ := Aside0.mk (Kd.R_lower ho0 (below_size (by repeat (first | (with_reducible first | exact HB.out | apply below_alloc | apply pw_below_drewN | apply below_drew1) | exact HB.out)))); have n1_ := Aside0.mk (below_step (by repeat (first | (with_reducible first | exact HB.out | apply below_alloc | apply pw_below_drewN | apply below_drew1) | exact HB.out)) hb); clear HB; have HO212 := n0_; have HB := n1_; clear n0_ n1_; (try clear hb); (try clear hb2); (try clear hk); (try clear hi); (try clear ho0)) | ((with_reducible refine gate_dst (N := 12) rfl ?_); refine box_event ?hg (N := 12) ?hd (cs := #[.slice none 0 0, .bool false]) (t := 36) ?hr ?_; (case hd => rfl); (case hg => rfl); (case hr => first | (go_simp; done) | (go_simp; rfl)); intro gb215 hg w33 hbox hb; have n0_ := Aside0.mk (Kd.R_below (by (with_reducible repeat (first | apply Kd.R_alloc | apply Kd.R_drewN | apply Kd.R_drew)); exact HO212.out) hb); have n1_ := Aside0.mk (below_step (by repeat (first | (with_reducible first | exact HB.out | apply below_alloc | apply pw_below_drewN | apply below_drew1) | exact HB.out)) hb); have n2_ := Aside0.mk (hbox); have n3_ := Aside0.mk ((by rw [hg]; exact (below_size (by repeat (first | (with_reducible first | exact HB.out | apply below_alloc | apply pw_below_drewN | apply below_drew1) | exact HB.out))) : w.heap.size ≤ gb215)); have n4_ := Aside0.mk ((by rw [hg]; exact (below_size (by repeat (first | (with_reducible first | exact HB.out | apply below_alloc | apply pw_below_drewN | apply below_drew1) | exact HB.out))) : w.heap.size ≤ gb215)); clear HO212; clear HB; have HO212 := n0_; have HB := n1_; have BK215 := n2_; have GW215 := n3_; have GE215 := n4_; clear n0_ n1_ n2_ n3_ n4_; clear hb hbox hg; obtain ⟨Ao34, co34, eo34⟩ := Kd.R_slice HO212.out; subst eo34; have hcz35_0 : w33.cell? ⟨gb215, 0, none⟩ = some (.slice none 0 0) := (blk_cell BK215.out 0).trans rfl; have hcz35_1 : w33.cell? ⟨gb215, 1, none⟩ = some (.bool false) := (blk_cell BK215.out 1).trans rfl; have hfz35_0 := blk_frozen BK215.out 0; have hfz35_1 := blk_frozen BK215.out 1) | ((with_reducible refine gate_callee (f := 31) rfl ?_); refine goesL_ (some 111) rfl rfl Try.func31 (by kernel_rfl) rfl #[.agg #[.slice Ao34 t210.length co34, .bool t213]] rfl (by (try simp only [List.map_toArray, List.map_cons, List.map_nil]); first | done | rfl | (simp only [List.length_drop, List.length_take]; rfl)) ?_; (with_reducible refine (impl_NullityOf.calls _ _ t210 t213 t216 false _ ?side1 ?side2 A18.out).mono ?_); (case side1 => refine (Kd.R_reads' (e := 3) (base := w.heap.size) (ok := fun k_ => True) (n := t210.length) (c := co34) ?_).2.2; exact (by (with_reducible repeat (first | apply Kd.R_alloc | apply Kd.R_drewN | apply Kd.R_drew)); exact (Kd.R_mono (Kd.R_far (p := ⟨gb215, 1, none⟩) (Kd.R_far (p := ⟨gb215, 0, none⟩) (Kd.R_types HO212.out BK215.out (by decide)) (fun _ hk => hk.2) (.slice Ao34 t210.length co34)) (fun _ hk => hk.2) (.bool t213)) (fun _ h_ => h_.1)))); (case side2 => exact (Kd.R_reads' HO212.out).2.1); rintro e w36 ⟨rfl, hb⟩; refine ⟨_, rfl, ?_⟩; have n0_ := Aside0.mk (Kd.R_below (by (with_reducible repeat (first | apply Kd.R_alloc | apply Kd.R_drewN | apply Kd.R_drew)); exact (Kd.R_mono (Kd.R_far (p := ⟨gb215, 1, none⟩) (Kd.R_far (p := ⟨gb215, 0, none⟩) (Kd.R_types HO212.out BK215.out (by decide)) (fun _ hk => hk.2) (.slice Ao34 t210.length co34)) (fun _ hk => hk.2) (.bool t213)) (fun _ h_ => h_.1))) hb); have n1_ := Aside0.mk (blk_below (g := gb215) (o := .cells #[.slice Ao34 t210.length co34, .bool t213] 36 (0, 0)) (by (with_reducible repeat (first | refine blk_drewN ?_ _ | refine blk_drew ?_ | refine blk_alloc ?_ _)); refine blk_put (cs := #[.slice Ao34 t210.length co34, .bool false]) ?_ 1 _ rfl; (with_reducible repeat (first | refine blk_drewN ?_ _ | refine blk_drew ?_ | refine blk_alloc ?_ _)); refine blk_put (cs := #[.slice none 0 0, .bool false]) ?_ 0 _ rfl; (with_reducible repeat (first | refine blk_drewN ?_ _ | refine blk_drew ?_ | refine blk_alloc ?_ _)); exact BK215.out) hb); have n2_ := Aside0.mk (below_step (by repeat (first | (with_reducible first | exact HB.out | apply below_alloc | apply pw_below_drewN | apply below_drew1 | refine below_set ?_ GE215.out) | exact HB.out)) hb); clear HO212; clear BK215; clear HB; have HO212 := n0_; have BK215 := n1_; have HB := n2_; clear n0_ n1_ n2_; (try clear hb); (try clear hb2); (try clear hk); (try clear hi)))
            go_ret
            exact ⟨by first | rfl | (simp [errW_none, errW_some] <;> rfl) | (simp [*, errW_none, errW_some] <;> rfl), by repeat (first | (with_reducible first | exact HB.out | apply below_alloc | apply pw_below_drewN | apply below_drew1 | refine below_set ?_ GE215.out) | exact HB.out)⟩
         ·
          replace c19 := Bool.eq_false_iff.mpr c19
          subst c19
          have H1 : (some false) = some r := by rw [if_neg (show ¬ (false = true) by decide)] at H; exact H
          clear H
          have H := H1
          clear H1
          first
          | exact absurd (H.trans (congrArg some HR_.out)) (by decide)
          |
           obtain rfl := Option.some.inj H
           go_wp2_with (first | ((with_reducible refine gate_callee (f := 20) rfl ?_); refine goesL_ (some 106) rfl rfl Try.func20 (by kernel_rfl) rfl #[.int .i64 t203, .int .i64 t204, .bool t205] rfl (by (try simp only [List.map_toArray, List.map_cons, List.map_nil]); first | done | rfl | (simp only [List.length_drop, List.length_take]; rfl)) ?_; (with_reducible refine (impl_GridGraph.calls kj12 t203 t204 t205 t210 t213 false _ A17.out).mono ?_); rintro e w37 ⟨v211, rfl, ho0, hb⟩; refine ⟨_, rfl, ?_⟩; have n0_ := Aside0.mk (Kd.R_lower ho0 (below_size (by repeat (first | (with_reducible first | exact HB.out | apply below_alloc | apply pw_below_drewN | apply below_drew1) | exact HB.out)))); have n1_ := Aside0.mk (below_step (by repeat (first | (with_reducible first | exact HB.out | apply below_alloc | apply pw_below_drewN | apply below_drew1) | exact HB.out)) hb); clear HB; have HO212 := n0_; have HB := n1_; clear n0_ n1_; (try clear hb); (try clear hb2); (try clear hk); (try clear hi); (try clear ho0)) | ((with_reducible refine gate_dst (N := 12) rfl ?_); refine box_event ?hg (N := 12) ?hd (cs := #[.slice none 0 0, .bool false]) (t := 36) ?hr ?_; (case hd => rfl); (case hg => rfl); (case hr => first | (go_simp; done) | (go_simp; rfl)); intro gb215 hg w38 hbox hb; have n0_ := Aside0.mk (Kd.R_below (by (with_reducible repeat (first | apply Kd.R_alloc | apply Kd.R_drewN | apply Kd.R_drew)); exact HO212.out) hb); have n1_ := Aside0.mk (below_step (by repeat (first | (with_reducible first | exact HB.out | apply below_alloc | apply pw_below_drewN | apply below_drew1) | exact HB.out)) hb); have n2_ := Aside0.mk (hbox); have n3_ := Aside0.mk ((by rw [hg]; exact (below_size (by repeat (first | (with_reducible first | exact HB.out | apply below_alloc | apply pw_below_drewN | apply below_drew1) | exact HB.out))) : w.heap.size ≤ gb215)); have n4_ := Aside0.mk ((by rw [hg]; exact (below_size (by repeat (first | (with_reducible first | exact HB.out | apply below_alloc | apply pw_below_drewN | apply below_drew1) | exact HB.out))) : w.heap.size ≤ gb215)); clear HO212; clear HB; have HO212 := n0_; have HB := n1_; have BK215 := n2_; have GW215 := n3_; have GE215 := n4_; clear n0_ n1_ n2_ n3_ n4_; clear hb hbox hg; obtain ⟨Ao39, co39, eo39⟩ := Kd.R_slice HO212.out; subst eo39; have hcz40_0 : w38.cell? ⟨gb215, 0, none⟩ = some (.slice none 0 0) := (blk_cell BK215.out 0).trans rfl; have hcz40_1 : w38.cell? ⟨gb215, 1, none⟩ = some (.bool false) := (blk_cell BK215.out 1).trans rfl; have hfz40_0 := blk_frozen BK215.out 0; have hfz40_1 := blk_frozen BK215.out 1) | ((with_reducible refine gate_callee (f := 31) rfl ?_); refine goesL_ (some 111) rfl rfl Try.func31 (by kernel_rfl) rfl #[.agg #[.slice Ao39 t210.length co39, .bool t213]] rfl (by (try simp only [List.map_toArray, List.map_cons, List.map_nil]); first | done | rfl | (simp only [List.length_drop, List.length_take]; rfl)) ?_; (with_reducible refine (impl_NullityOf.calls _ _ t210 t213 t216 t217 _ ?side1 ?side2 A18.out).mono ?_); (case side1 => refine (Kd.R_reads' (e := 3) (base := w.heap.size) (ok := fun k_ => True) (n := t210.length) (c := co39) ?_).2.2; exact (by (with_reducible repeat (first | apply Kd.R_alloc | apply Kd.R_drewN | apply Kd.R_drew)); exact (Kd.R_mono (Kd.R_far (p := ⟨gb215, 1, none⟩) (Kd.R_far (p := ⟨gb215, 0, none⟩) (Kd.R_types HO212.out BK215.out (by decide)) (fun _ hk => hk.2) (.slice Ao39 t210.length co39)) (fun _ hk => hk.2) (.bool t213)) (fun _ h_ => h_.1)))); (case side2 => exact (Kd.R_reads' HO212.out).2.1); rintro e w41 ⟨rfl, hb⟩; refine ⟨_, rfl, ?_⟩; have n0_ := Aside0.mk (Kd.R_below (by (with_reducible repeat (first | apply Kd.R_alloc | apply Kd.R_drewN | apply Kd.R_drew)); exact (Kd.R_mono (Kd.R_far (p := ⟨gb215, 1, none⟩) (Kd.R_far (p := ⟨gb215, 0, none⟩) (Kd.R_types HO212.out BK215.out (by decide)) (fun _ hk => hk.2) (.slice Ao39 t210.length co39)) (fun _ hk => hk.2) (.bool t213)) (fun _ h_ => h_.1))) hb); have n1_ := Aside0.mk (blk_below (g := gb215) (o := .cells #[.slice Ao39 t210.length co39, .bool t213] 36 (0, 0)) (by (with_reducible repeat (first | refine blk_drewN ?_ _ | refine blk_drew ?_ | refine blk_alloc ?_ _)); refine blk_put (cs := #[.slice Ao39 t210.length co39, .bool false]) ?_ 1 _ rfl; (with_reducible repeat (first | refine blk_drewN ?_ _ | refine blk_drew ?_ | refine blk_alloc ?_ _)); refine blk_put (cs := #[.slice none 0 0, .bool false]) ?_ 0 _ rfl; (with_reducible repeat (first | refine blk_drewN ?_ _ | refine blk_drew ?_ | refine blk_alloc ?_ _)); exact BK215.out) hb); have n2_ := Aside0.mk (below_step (by repeat (first | (with_reducible first | exact HB.out | apply below_alloc | apply pw_below_drewN | apply below_drew1 | refine below_set ?_ GE215.out) | exact HB.out)) hb); clear HO212; clear BK215; clear HB; have HO212 := n0_; have BK215 := n1_; have HB := n2_; clear n0_ n1_ n2_; (try clear hb); (try clear hb2); (try clear hk); (try clear hi)))
           go_ret
           exact ⟨by first | rfl | (simp [errW_none, errW_some] <;> rfl) | (simp [*, errW_none, errW_some] <;> rfl), by repeat (first | (with_reducible first | exact HB.out | apply below_alloc | apply pw_below_drewN | apply below_drew1 | refine below_set ?_ GE215.out) | exact HB.out)⟩
        ·
         replace c16 := Bool.eq_false_iff.mpr c16
         subst c16
         have H1 : (laws_FnRowsTellNullities.j2 kj12 l0 l1) = some r := by rw [if_neg (show ¬ (false = true) by decide)] at H; exact H
         clear H
         have H := H1
         clear H1
         have H' := Aside0.mk H
         clear H
         go_wp2
         go_meet
         case rel => exact ⟨_, H', ⟨by have := HJ7.out; have := HJ12.out; first | omega | exact Nat.le_refl _⟩, ⟨by repeat (first | (with_reducible first | exact HB.out | apply below_alloc | apply pw_below_drewN | apply below_drew1) | exact HB.out)⟩⟩
       case rest => as_aux_lemma =>
        clear HC15
        try clear c1
        try clear c2
        try clear p2
        try clear c3
        try clear c4
        try clear c5
        try clear c6
        try clear p6
        try clear c11
        try clear c11b0
        try clear c11b1
        try clear c11b2
        try clear c12
        try clear c14
        try clear c15
        try clear c16
        try clear c19
        try clear c20
        try clear c21
        try clear c21b0
        try clear c21b1
        try clear c29
        try clear c30
        try clear c31
        try clear hcz25_0
        try clear hcz25_1
        try clear hcz30_0
        try clear hcz30_1
        try clear hcz35_0
        try clear hcz35_1
        try clear hcz40_0
        try clear hcz40_1
        try clear hfz25_0
        try clear hfz25_1
        try clear hfz30_0
        try clear hfz30_1
        try clear hfz35_0
        try clear hfz35_1
        try clear hfz40_0
        try clear hfz40_1
        try clear p2
        try clear p6
        obtain ⟨kq, HA, HJ14, HB⟩ := hcut
        cases kq with
        | zero => exact absurd HA.out (by simp [laws_FnRowsTellNullities.j2])
        | succ kj14 =>
         have H := HA.out
         clear HA
         simp only [laws_FnRowsTellNullities.j2] at H
         replace H := Option.bind_eq_some_iff.mp H
         obtain ⟨⟨t218, t219, t220⟩, A420, H⟩ := H
         replace H : ((impl_RowPeriod.f t218 t219 t220).bind fun bt221 => ((spec_RowPeriod.f kj14 t218 t219 t220).bind fun bt223 => ((impl_RowToggles.f t218 t219 t220).bind fun bt225 => ((spec_RowToggles.f t218 t219 t220).bind fun bt227 => (if (bt221.2 != bt223.2) = true then (laws_FnRowsTellNullities.j3 kj14 l0 l1 t218 t219 t220 bt221.1 bt221.2 true) else (if bt221.1 = bt223.1 then (if (bt225.2 != bt227.2) = true then (laws_FnRowsTellNullities.j3 kj14 l0 l1 t218 t219 t220 bt221.1 bt221.2 true) else (laws_FnRowsTellNullities.j3 kj14 l0 l1 t218 t219 t220 bt221.1 bt221.2 (bt225.1 != bt227.1))) else (laws_FnRowsTellNullities.j3 kj14 l0 l1 t218 t219 t220 bt221.1 bt221.2 true))))))) = some r := H
         have A42 := Aside0.mk A420
         clear A420
         replace H := Option.bind_eq_some_iff.mp H
         obtain ⟨⟨t221, t222⟩, A430, H⟩ := H
         replace H : ((spec_RowPeriod.f kj14 t218 t219 t220).bind fun bt223 => ((impl_RowToggles.f t218 t219 t220).bind fun bt225 => ((spec_RowToggles.f t218 t219 t220).bind fun bt227 => (if (t222 != bt223.2) = true then (laws_FnRowsTellNullities.j3 kj14 l0 l1 t218 t219 t220 t221 t222 true) else (if t221 = bt223.1 then (if (bt225.2 != bt227.2) = true then (laws_FnRowsTellNullities.j3 kj14 l0 l1 t218 t219 t220 t221 t222 true) else (laws_FnRowsTellNullities.j3 kj14 l0 l1 t218 t219 t220 t221 t222 (bt225.1 != bt227.1))) else (laws_FnRowsTellNullities.j3 kj14 l0 l1 t218 t219 t220 t221 t222 true)))))) = some r := H
         have A43 := Aside0.mk A430
         clear A430
         replace H := Option.bind_eq_some_iff.mp H
         obtain ⟨⟨t223, t224⟩, A440, H⟩ := H
         replace H : ((impl_RowToggles.f t218 t219 t220).bind fun bt225 => ((spec_RowToggles.f t218 t219 t220).bind fun bt227 => (if (t222 != t224) = true then (laws_FnRowsTellNullities.j3 kj14 l0 l1 t218 t219 t220 t221 t222 true) else (if t221 = t223 then (if (bt225.2 != bt227.2) = true then (laws_FnRowsTellNullities.j3 kj14 l0 l1 t218 t219 t220 t221 t222 true) else (laws_FnRowsTellNullities.j3 kj14 l0 l1 t218 t219 t220 t221 t222 (bt225.1 != bt227.1))) else (laws_FnRowsTellNullities.j3 kj14 l0 l1 t218 t219 t220 t221 t222 true))))) = some r := H
         have A44 := Aside0.mk A440
         clear A440
         replace H := Option.bind_eq_some_iff.mp H
         obtain ⟨⟨t225, t226⟩, A450, H⟩ := H
         replace H : ((spec_RowToggles.f t218 t219 t220).bind fun bt227 => (if (t222 != t224) = true then (laws_FnRowsTellNullities.j3 kj14 l0 l1 t218 t219 t220 t221 t222 true) else (if t221 = t223 then (if (t226 != bt227.2) = true then (laws_FnRowsTellNullities.j3 kj14 l0 l1 t218 t219 t220 t221 t222 true) else (laws_FnRowsTellNullities.j3 kj14 l0 l1 t218 t219 t220 t221 t222 (t225 != bt227.1))) else (laws_FnRowsTellNullities.j3 kj14 l0 l1 t218 t219 t220 t221 t222 true)))) = some r := H
         have A45 := Aside0.mk A450
         clear A450
         replace H := Option.bind_eq_some_iff.mp H
         obtain ⟨⟨t227, t228⟩, A460, H⟩ := H
         replace H : (if (t222 != t224) = true then (laws_FnRowsTellNullities.j3 kj14 l0 l1 t218 t219 t220 t221 t222 true) else (if t221 = t223 then (if (t226 != t228) = true then (laws_FnRowsTellNullities.j3 kj14 l0 l1 t218 t219 t220 t221 t222 true) else (laws_FnRowsTellNullities.j3 kj14 l0 l1 t218 t219 t220 t221 t222 (t225 != t227))) else (laws_FnRowsTellNullities.j3 kj14 l0 l1 t218 t219 t220 t221 t222 true))) = some r := H
         have A46 := Aside0.mk A460
         clear A460
         have HC47 := Aside0.mk H
         clear H
         go_upto_region 18 with (first | ((with_reducible refine gate_callee (f := 32) rfl ?_); refine goesL_ (some 127) rfl rfl Try.func32 (by kernel_rfl) rfl #[.slice A1 l1.length c1] rfl (by (try simp only [List.map_toArray, List.map_cons, List.map_nil]); first | done | rfl | (simp only [List.length_drop, List.length_take]; rfl)) ?_; (with_reducible refine (spec_DrawRowPeriod.calls _ _ l1 t218 t219 t220 _ ?side1 ?side2 A42.out).mono ?_); (case side1 => repeat (first | exact (Kd.C_below HR1.out HB.out) | (with_reducible refine Kd.C_alloc ?_ _) | (with_reducible refine Kd.C_drewN ?_ _) | (with_reducible refine Kd.C_drew ?_))); (case side2 => exact HC1.out); rintro e w48 ⟨rfl, hb⟩; refine ⟨_, rfl, ?_⟩; have n0_ := Aside0.mk (below_step (by repeat (first | (with_reducible first | exact HB.out | apply below_alloc | apply pw_below_drewN | apply below_drew1) | exact HB.out)) hb); clear HB; have HB := n0_; clear n0_; (try clear hb); (try clear hb2); (try clear hk); (try clear hi)) | ((with_reducible refine gate_callee (f := 33) rfl ?_); refine goesL_ (some 135) rfl rfl Try.func33 (by kernel_rfl) rfl #[.int .i64 t218, .bool t219, .int .i64 t220] rfl (by (try simp only [List.map_toArray, List.map_cons, List.map_nil]); first | done | rfl | (simp only [List.length_drop, List.length_take]; rfl)) ?_; (with_reducible refine (impl_RowPeriod.calls t218 t219 t220 t221 t222 _ A43.out).mono ?_); rintro e w49 ⟨rfl, hb⟩; refine ⟨_, rfl, ?_⟩; have n0_ := Aside0.mk (below_step (by repeat (first | (with_reducible first | exact HB.out | apply below_alloc | apply pw_below_drewN | apply below_drew1) | exact HB.out)) hb); clear HB; have HB := n0_; clear n0_; (try clear hb); (try clear hb2); (try clear hk); (try clear hi)) | ((with_reducible refine gate_callee (f := 34) rfl ?_); refine goesL_ (some 142) rfl rfl Try.func34 (by kernel_rfl) rfl #[.int .i64 t218, .bool t219, .int .i64 t220] rfl (by (try simp only [List.map_toArray, List.map_cons, List.map_nil]); first | done | rfl | (simp only [List.length_drop, List.length_take]; rfl)) ?_; (with_reducible refine (spec_RowPeriod.calls kj14 t218 t219 t220 t223 t224 _ A44.out).mono ?_); rintro e w' ⟨rfl, ⟨nd, rfl⟩⟩; refine ⟨_, rfl, ?_⟩) | ((with_reducible refine gate_callee (f := 35) rfl ?_); refine goesL_ (some 149) rfl rfl Try.func35 (by kernel_rfl) rfl #[.int .i64 t218, .bool t219, .int .i64 t220] rfl (by (try simp only [List.map_toArray, List.map_cons, List.map_nil]); first | done | rfl | (simp only [List.length_drop, List.length_take]; rfl)) ?_; (with_reducible refine (impl_RowToggles.calls t218 t219 t220 t225 t226 _ A45.out).mono ?_); rintro e w50 ⟨rfl, hb⟩; refine ⟨_, rfl, ?_⟩; have n0_ := Aside0.mk (below_step (by repeat (first | (with_reducible first | exact HB.out | apply below_alloc | apply pw_below_drewN | apply below_drew1) | exact HB.out)) hb); clear HB; have HB := n0_; clear n0_; (try clear hb); (try clear hb2); (try clear hk); (try clear hi)) | ((with_reducible refine gate_callee (f := 36) rfl ?_); refine goesL_ (some 156) rfl rfl Try.func36 (by kernel_rfl) rfl #[.int .i64 t218, .bool t219, .int .i64 t220] rfl (by (try simp only [List.map_toArray, List.map_cons, List.map_nil]); first | done | rfl | (simp only [List.length_drop, List.length_take]; rfl)) ?_; (with_reducible refine (spec_RowToggles.calls t218 t219 t220 t227 t228 _ A46.out).mono ?_); rintro e w' ⟨rfl, ⟨nd, rfl⟩⟩; refine ⟨_, rfl, ?_⟩))
         (try simp only [Act.put, List.setIfInBounds_toArray, List.set_cons_zero, List.set_cons_succ])
         go_cut [176] (fun v176 wc => ∃ (kq : Nat) (x176_46 : Bool), v176 = .bool x176_46 ∧ Aside0 (laws_FnRowsTellNullities.j3 kq l0 l1 t218 t219 t220 t221 t222 x176_46 = some r) ∧ Aside0 (kq ≤ kj14) ∧ Aside0 (Below w.heap.size w wc))
         case first => as_aux_lemma =>
          have H := HC47.out
          clear HC47
          by_cases c51 : (t222 != t224) = true
          ·
           rw [if_pos c51] at H
           have c51b0 : (t222 != t224) = true := c51
           (try (have c51b1 : decide (t222 = t224) = false := by simpa using c51))
           (try (have c51b2 : (t222 == t224) = false := by simpa using c51))
           (try (have c51b3 : ¬ (t222 = t224) := by simpa using c51))
           clear c51
           (first | rw [c51b0] | (simp only [i64_w, i32_w]; rw [c51b0]) | skip)
           first
           | exact absurd (H.trans (congrArg some HR_.out)) (by cases kj14 <;> simp [laws_FnRowsTellNullities.j3])
           |
            have H' := Aside0.mk H
            clear H
            go_wp2
            go_meet
            case rel => exact ⟨_, (true), (by first | rfl | (simp; done) | (simp [*]; done)), H', ⟨by have := HJ7.out; have := HJ12.out; have := HJ14.out; first | omega | exact Nat.le_refl _⟩, ⟨by repeat (first | (with_reducible first | exact HB.out | apply below_alloc | apply pw_below_drewN | apply below_drew1) | exact HB.out)⟩⟩
          ·
           rw [if_neg c51] at H
           have c51b0 : (t222 != t224) = false := by simpa using c51
           (try (have c51b1 : decide (t222 = t224) = true := by simpa using c51))
           (try (have c51b2 : (t222 == t224) = true := by simpa using c51))
           clear c51
           (first | rw [c51b0] | (simp only [i64_w, i32_w]; rw [c51b0]) | skip)
           by_cases c52 : t221 = t223
           ·
            rw [if_pos c52] at H
            have c52b0 : (t221 == t223) = true := beq_iff_eq.mpr c52
            have c52b1 : (t221 != t223) = false := bne_eq_false_iff_eq.mpr c52
            clear c52
            by_cases c53 : (t226 != t228) = true
            ·
             rw [if_pos c53] at H
             have c53b0 : (t226 != t228) = true := c53
             (try (have c53b1 : decide (t226 = t228) = false := by simpa using c53))
             (try (have c53b2 : (t226 == t228) = false := by simpa using c53))
             (try (have c53b3 : ¬ (t226 = t228) := by simpa using c53))
             clear c53
             first
             | exact absurd (H.trans (congrArg some HR_.out)) (by cases kj14 <;> simp [laws_FnRowsTellNullities.j3])
             |
              have H' := Aside0.mk H
              clear H
              go_wp2
              go_meet
              case rel => exact ⟨_, (true), (by first | rfl | (simp; done) | (simp [*]; done)), H', ⟨by have := HJ7.out; have := HJ12.out; have := HJ14.out; first | omega | exact Nat.le_refl _⟩, ⟨by repeat (first | (with_reducible first | exact HB.out | apply below_alloc | apply pw_below_drewN | apply below_drew1) | exact HB.out)⟩⟩
            ·
             rw [if_neg c53] at H
             have c53b0 : (t226 != t228) = false := by simpa using c53
             (try (have c53b1 : decide (t226 = t228) = true := by simpa using c53))
             (try (have c53b2 : (t226 == t228) = true := by simpa using c53))
             clear c53
             have H' := Aside0.mk H
             clear H
             go_wp2
             go_meet
             case rel => exact ⟨_, ((t225 != t227)), (by first | rfl | (simp; done) | (simp [*]; done) | (simp; cases t225 <;> simp)), H', ⟨by have := HJ7.out; have := HJ12.out; have := HJ14.out; first | omega | exact Nat.le_refl _⟩, ⟨by repeat (first | (with_reducible first | exact HB.out | apply below_alloc | apply pw_below_drewN | apply below_drew1) | exact HB.out)⟩⟩
           ·
            rw [if_neg c52] at H
            have c52b0 : (t221 == t223) = false := beq_eq_false_iff_ne.mpr c52
            have c52b1 : (t221 != t223) = true := bne_iff_ne.mpr c52
            first
            | exact absurd (H.trans (congrArg some HR_.out)) (by cases kj14 <;> simp [laws_FnRowsTellNullities.j3])
            |
             have H' := Aside0.mk H
             clear H
             go_wp2
             go_meet
             case rel => exact ⟨_, (true), (by first | rfl | (simp; done) | (simp [*]; done)), H', ⟨by have := HJ7.out; have := HJ12.out; have := HJ14.out; first | omega | exact Nat.le_refl _⟩, ⟨by repeat (first | (with_reducible first | exact HB.out | apply below_alloc | apply pw_below_drewN | apply below_drew1) | exact HB.out)⟩⟩
         case rest => as_aux_lemma =>
          clear HC47
          try clear c1
          try clear c2
          try clear p2
          try clear c3
          try clear c4
          try clear c5
          try clear c6
          try clear p6
          try clear c11
          try clear c11b0
          try clear c11b1
          try clear c11b2
          try clear c12
          try clear c14
          try clear c15
          try clear c16
          try clear c19
          try clear c20
          try clear c21
          try clear c21b0
          try clear c21b1
          try clear c29
          try clear c30
          try clear c31
          try clear c32
          try clear c33
          try clear c34
          try clear c35
          try clear c36
          try clear c51
          try clear c51b0
          try clear c51b1
          try clear c51b2
          try clear c52
          try clear c52b0
          try clear c52b1
          try clear c53
          try clear c53b0
          try clear c53b1
          try clear c53b2
          try clear hcz25_0
          try clear hcz25_1
          try clear hcz30_0
          try clear hcz30_1
          try clear hcz35_0
          try clear hcz35_1
          try clear hcz40_0
          try clear hcz40_1
          try clear hfz25_0
          try clear hfz25_1
          try clear hfz30_0
          try clear hfz30_1
          try clear hfz35_0
          try clear hfz35_1
          try clear hfz40_0
          try clear hfz40_1
          try clear p2
          try clear p6
          obtain ⟨kq, x176_46, rfl, HA, HJ46, HB⟩ := hcut
          cases kq with
          | zero => exact absurd HA.out (by simp [laws_FnRowsTellNullities.j3])
          | succ kj46 =>
           have H := HA.out
           clear HA
           simp only [laws_FnRowsTellNullities.j3] at H
           by_cases c54 : x176_46 = true
           ·
            subst c54
            have H1 : (some false) = some r := by rw [if_pos rfl] at H; exact H
            clear H
            have H := H1
            clear H1
            first
            | exact absurd (H.trans (congrArg some HR_.out)) (by decide)
            |
             obtain rfl := Option.some.inj H
             go_wp2
             go_ret
             exact ⟨by first | rfl | (simp [errW_none, errW_some] <;> rfl) | (simp [*, errW_none, errW_some] <;> rfl), by repeat (first | (with_reducible first | exact HB.out | apply below_alloc | apply pw_below_drewN | apply below_drew1) | exact HB.out)⟩
           ·
            replace c54 := Bool.eq_false_iff.mpr c54
            subst c54
            have H1 : (if t222 = true then (laws_FnRowsTellNullities.j4 kj46 l0 l1 t218 t219 t220 t221 (decide (t221 ≤ 200))) else (laws_FnRowsTellNullities.j4 kj46 l0 l1 t218 t219 t220 t221 false)) = some r := by rw [if_neg (show ¬ (false = true) by decide)] at H; exact H
            clear H
            have H := H1
            clear H1
            have HC55 := Aside0.mk H
            clear H
            go_upto_region 20 with (fail)
            go_cut [181] (fun v181 wc => ∃ (kq : Nat) (x181_54 : Bool), v181 = .bool x181_54 ∧ Aside0 (laws_FnRowsTellNullities.j4 kq l0 l1 t218 t219 t220 t221 x181_54 = some r) ∧ Aside0 (kq ≤ kj46) ∧ Aside0 (Below w.heap.size w wc))
            case first => as_aux_lemma =>
             have H := HC55.out
             clear HC55
             by_cases c56 : t222 = true
             ·
              subst c56
              have H1 : (laws_FnRowsTellNullities.j4 kj46 l0 l1 t218 t219 t220 t221 (decide (t221 ≤ 200))) = some r := by rw [if_pos rfl] at H; exact H
              clear H
              have H := H1
              clear H1
              have H' := Aside0.mk H
              clear H
              go_wp2
              go_meet
              case rel => exact ⟨_, (decide (t221 ≤ 200)), (by first | rfl | (simp; done) | (simp [*]; done)), H', ⟨by have := HJ7.out; have := HJ12.out; have := HJ14.out; have := HJ46.out; first | omega | exact Nat.le_refl _⟩, ⟨by repeat (first | (with_reducible first | exact HB.out | apply below_alloc | apply pw_below_drewN | apply below_drew1) | exact HB.out)⟩⟩
             ·
              replace c56 := Bool.eq_false_iff.mpr c56
              subst c56
              have H1 : (laws_FnRowsTellNullities.j4 kj46 l0 l1 t218 t219 t220 t221 false) = some r := by rw [if_neg (show ¬ (false = true) by decide)] at H; exact H
              clear H
              have H := H1
              clear H1
              have H' := Aside0.mk H
              clear H
              go_wp2
              go_meet
              case rel => exact ⟨_, (false), (by first | rfl | (simp; done) | (simp [*]; done)), H', ⟨by have := HJ7.out; have := HJ12.out; have := HJ14.out; have := HJ46.out; first | omega | exact Nat.le_refl _⟩, ⟨by repeat (first | (with_reducible first | exact HB.out | apply below_alloc | apply pw_below_drewN | apply below_drew1) | exact HB.out)⟩⟩
            case rest => as_aux_lemma =>
             clear HC55
             try clear c1
             try clear c2
             try clear p2
             try clear c3
             try clear c4
             try clear c5
             try clear c6
             try clear p6
             try clear c11
             try clear c11b0
             try clear c11b1
             try clear c11b2
             try clear c12
             try clear c14
             try clear c15
             try clear c16
             try clear c19
             try clear c20
             try clear c21
             try clear c21b0
             try clear c21b1
             try clear c29
             try clear c30
             try clear c31
             try clear c32
             try clear c33
             try clear c34
             try clear c35
             try clear c36
             try clear c51
             try clear c51b0
             try clear c51b1
             try clear c51b2
             try clear c52
             try clear c52b0
             try clear c52b1
             try clear c53
             try clear c53b0
             try clear c53b1
             try clear c53b2
             try clear c54
             try clear c56
             try clear hcz25_0
             try clear hcz25_1
             try clear hcz30_0
             try clear hcz30_1
             try clear hcz35_0
             try clear hcz35_1
             try clear hcz40_0
             try clear hcz40_1
             try clear hfz25_0
             try clear hfz25_1
             try clear hfz30_0
             try clear hfz30_1
             try clear hfz35_0
             try clear hfz35_1
             try clear hfz40_0
             try clear hfz40_1
             try clear p2
             try clear p6
             obtain ⟨kq, x181_54, rfl, HA, HJ54, HB⟩ := hcut
             cases kq with
             | zero => exact absurd HA.out (by simp [laws_FnRowsTellNullities.j4])
             | succ kj54 =>
              have H := HA.out
              clear HA
              simp only [laws_FnRowsTellNullities.j4] at H
              have HC57 := Aside0.mk H
              clear H
              go_upto_if 181 with (fail)
              go_cut [] (fun wc => ∃ (kq : Nat), Aside0 (laws_FnRowsTellNullities.j5 kq l0 l1 = some r) ∧ Aside0 (kq ≤ kj54) ∧ Aside0 (Below w.heap.size w wc))
              case first => as_aux_lemma =>
               have H := HC57.out
               clear HC57
               by_cases c58 : x181_54 = true
               ·
                subst c58
                have H1 : ((impl_RowBehind.f t218 t219 t220 t221).bind fun bt229 => ((impl_RowBehind.f t218 t219 t220 (wrap64 (t221 - 1))).bind fun bt231 => (if bt229.2 = true then (if bt229.1 = t220 then (if bt231.2 = true then (if bt231.1 = 0 then (laws_FnRowsTellNullities.j5 kj54 l0 l1) else (some false)) else (some false)) else (some false)) else (some false)))) = some r := by rw [if_pos rfl] at H; exact H
                clear H
                have H := H1
                clear H1
                replace H := Option.bind_eq_some_iff.mp H
                obtain ⟨⟨t229, t230⟩, A590, H⟩ := H
                replace H : ((impl_RowBehind.f t218 t219 t220 (wrap64 (t221 - 1))).bind fun bt231 => (if t230 = true then (if t229 = t220 then (if bt231.2 = true then (if bt231.1 = 0 then (laws_FnRowsTellNullities.j5 kj54 l0 l1) else (some false)) else (some false)) else (some false)) else (some false))) = some r := H
                have A59 := Aside0.mk A590
                clear A590
                replace H := Option.bind_eq_some_iff.mp H
                obtain ⟨⟨t231, t232⟩, A600, H⟩ := H
                replace H : (if t230 = true then (if t229 = t220 then (if t232 = true then (if t231 = 0 then (laws_FnRowsTellNullities.j5 kj54 l0 l1) else (some false)) else (some false)) else (some false)) else (some false)) = some r := H
                have A60 := Aside0.mk A600
                clear A600
                by_cases c61 : t230 = true
                ·
                 subst c61
                 have H1 : (if t229 = t220 then (if t232 = true then (if t231 = 0 then (laws_FnRowsTellNullities.j5 kj54 l0 l1) else (some false)) else (some false)) else (some false)) = some r := by rw [if_pos rfl] at H; exact H
                 clear H
                 have H := H1
                 clear H1
                 by_cases c62 : t229 = t220
                 ·
                  rw [if_pos c62] at H
                  have c62b0 : (t229 == t220) = true := beq_iff_eq.mpr c62
                  have c62b1 : (t229 != t220) = false := bne_eq_false_iff_eq.mpr c62
                  clear c62
                  (first | rw [c62b0] | (simp only [i64_w, i32_w]; rw [c62b0]) | skip)
                  by_cases c63 : t232 = true
                  ·
                   subst c63
                   have H1 : (if t231 = 0 then (laws_FnRowsTellNullities.j5 kj54 l0 l1) else (some false)) = some r := by rw [if_pos rfl] at H; exact H
                   clear H
                   have H := H1
                   clear H1
                   by_cases c64 : t231 = 0
                   ·
                    rw [if_pos c64] at H
                    have c64b0 : (t231 == 0) = true := beq_iff_eq.mpr c64
                    have c64b1 : (t231 != 0) = false := bne_eq_false_iff_eq.mpr c64
                    clear c64
                    have H' := Aside0.mk H
                    clear H
                    go_wp2_with (first | ((with_reducible refine gate_callee (f := 37) rfl ?_); refine goesL_ (some 187) rfl rfl Try.func37 (by kernel_rfl) rfl #[.int .i64 t218, .bool t219, .int .i64 t220, .int .i64 t221] rfl (by (try simp only [List.map_toArray, List.map_cons, List.map_nil]); first | done | rfl | (simp only [List.length_drop, List.length_take]; rfl)) ?_; (with_reducible refine (impl_RowBehind.calls t218 t219 t220 t221 t229 true _ A59.out).mono ?_); rintro e w65 ⟨rfl, hb⟩; refine ⟨_, rfl, ?_⟩; have n0_ := Aside0.mk (below_step (by repeat (first | (with_reducible first | exact HB.out | apply below_alloc | apply pw_below_drewN | apply below_drew1) | exact HB.out)) hb); clear HB; have HB := n0_; clear n0_; (try clear hb); (try clear hb2); (try clear hk); (try clear hi)) | ((with_reducible refine gate_callee (f := 37) rfl ?_); refine goesL_ (some 196) rfl rfl Try.func37 (by kernel_rfl) rfl #[.int .i64 t218, .bool t219, .int .i64 t220, .int .i64 (wrap64 (t221 - 1))] rfl (by (try simp only [List.map_toArray, List.map_cons, List.map_nil]); first | done | rfl | (simp only [List.length_drop, List.length_take]; rfl)) ?_; (with_reducible refine (impl_RowBehind.calls t218 t219 t220 (wrap64 (t221 - 1)) t231 true _ A60.out).mono ?_); rintro e w66 ⟨rfl, hb⟩; refine ⟨_, rfl, ?_⟩; have n0_ := Aside0.mk (below_step (by repeat (first | (with_reducible first | exact HB.out | apply below_alloc | apply pw_below_drewN | apply below_drew1) | exact HB.out)) hb); clear HB; have HB := n0_; clear n0_; (try clear hb); (try clear hb2); (try clear hk); (try clear hi)))
                    go_meet
                    case rel => exact ⟨_, H', ⟨by have := HJ7.out; have := HJ12.out; have := HJ14.out; have := HJ46.out; have := HJ54.out; first | omega | exact Nat.le_refl _⟩, ⟨by repeat (first | (with_reducible first | exact HB.out | apply below_alloc | apply pw_below_drewN | apply below_drew1) | exact HB.out)⟩⟩
                   ·
                    rw [if_neg c64] at H
                    have c64b0 : (t231 == 0) = false := beq_eq_false_iff_ne.mpr c64
                    have c64b1 : (t231 != 0) = true := bne_iff_ne.mpr c64
                    first
                    | exact absurd (H.trans (congrArg some HR_.out)) (by decide)
                    |
                     obtain rfl := Option.some.inj H
                     go_wp2_with (first | ((with_reducible refine gate_callee (f := 37) rfl ?_); refine goesL_ (some 187) rfl rfl Try.func37 (by kernel_rfl) rfl #[.int .i64 t218, .bool t219, .int .i64 t220, .int .i64 t221] rfl (by (try simp only [List.map_toArray, List.map_cons, List.map_nil]); first | done | rfl | (simp only [List.length_drop, List.length_take]; rfl)) ?_; (with_reducible refine (impl_RowBehind.calls t218 t219 t220 t221 t229 true _ A59.out).mono ?_); rintro e w67 ⟨rfl, hb⟩; refine ⟨_, rfl, ?_⟩; have n0_ := Aside0.mk (below_step (by repeat (first | (with_reducible first | exact HB.out | apply below_alloc | apply pw_below_drewN | apply below_drew1) | exact HB.out)) hb); clear HB; have HB := n0_; clear n0_; (try clear hb); (try clear hb2); (try clear hk); (try clear hi)) | ((with_reducible refine gate_callee (f := 37) rfl ?_); refine goesL_ (some 196) rfl rfl Try.func37 (by kernel_rfl) rfl #[.int .i64 t218, .bool t219, .int .i64 t220, .int .i64 (wrap64 (t221 - 1))] rfl (by (try simp only [List.map_toArray, List.map_cons, List.map_nil]); first | done | rfl | (simp only [List.length_drop, List.length_take]; rfl)) ?_; (with_reducible refine (impl_RowBehind.calls t218 t219 t220 (wrap64 (t221 - 1)) t231 true _ A60.out).mono ?_); rintro e w68 ⟨rfl, hb⟩; refine ⟨_, rfl, ?_⟩; have n0_ := Aside0.mk (below_step (by repeat (first | (with_reducible first | exact HB.out | apply below_alloc | apply pw_below_drewN | apply below_drew1) | exact HB.out)) hb); clear HB; have HB := n0_; clear n0_; (try clear hb); (try clear hb2); (try clear hk); (try clear hi)))
                     go_ret
                     exact ⟨by first | rfl | (simp [errW_none, errW_some] <;> rfl) | (simp [*, errW_none, errW_some] <;> rfl), by repeat (first | (with_reducible first | exact HB.out | apply below_alloc | apply pw_below_drewN | apply below_drew1) | exact HB.out)⟩
                  ·
                   replace c63 := Bool.eq_false_iff.mpr c63
                   subst c63
                   have H1 : (some false) = some r := by rw [if_neg (show ¬ (false = true) by decide)] at H; exact H
                   clear H
                   have H := H1
                   clear H1
                   first
                   | exact absurd (H.trans (congrArg some HR_.out)) (by decide)
                   |
                    obtain rfl := Option.some.inj H
                    go_wp2_with (first | ((with_reducible refine gate_callee (f := 37) rfl ?_); refine goesL_ (some 187) rfl rfl Try.func37 (by kernel_rfl) rfl #[.int .i64 t218, .bool t219, .int .i64 t220, .int .i64 t221] rfl (by (try simp only [List.map_toArray, List.map_cons, List.map_nil]); first | done | rfl | (simp only [List.length_drop, List.length_take]; rfl)) ?_; (with_reducible refine (impl_RowBehind.calls t218 t219 t220 t221 t229 true _ A59.out).mono ?_); rintro e w69 ⟨rfl, hb⟩; refine ⟨_, rfl, ?_⟩; have n0_ := Aside0.mk (below_step (by repeat (first | (with_reducible first | exact HB.out | apply below_alloc | apply pw_below_drewN | apply below_drew1) | exact HB.out)) hb); clear HB; have HB := n0_; clear n0_; (try clear hb); (try clear hb2); (try clear hk); (try clear hi)) | ((with_reducible refine gate_callee (f := 37) rfl ?_); refine goesL_ (some 196) rfl rfl Try.func37 (by kernel_rfl) rfl #[.int .i64 t218, .bool t219, .int .i64 t220, .int .i64 (wrap64 (t221 - 1))] rfl (by (try simp only [List.map_toArray, List.map_cons, List.map_nil]); first | done | rfl | (simp only [List.length_drop, List.length_take]; rfl)) ?_; (with_reducible refine (impl_RowBehind.calls t218 t219 t220 (wrap64 (t221 - 1)) t231 false _ A60.out).mono ?_); rintro e w70 ⟨rfl, hb⟩; refine ⟨_, rfl, ?_⟩; have n0_ := Aside0.mk (below_step (by repeat (first | (with_reducible first | exact HB.out | apply below_alloc | apply pw_below_drewN | apply below_drew1) | exact HB.out)) hb); clear HB; have HB := n0_; clear n0_; (try clear hb); (try clear hb2); (try clear hk); (try clear hi)))
                    go_ret
                    exact ⟨by first | rfl | (simp [errW_none, errW_some] <;> rfl) | (simp [*, errW_none, errW_some] <;> rfl), by repeat (first | (with_reducible first | exact HB.out | apply below_alloc | apply pw_below_drewN | apply below_drew1) | exact HB.out)⟩
                 ·
                  rw [if_neg c62] at H
                  have c62b0 : (t229 == t220) = false := beq_eq_false_iff_ne.mpr c62
                  have c62b1 : (t229 != t220) = true := bne_iff_ne.mpr c62
                  (first | rw [c62b0] | (simp only [i64_w, i32_w]; rw [c62b0]) | skip)
                  first
                  | exact absurd (H.trans (congrArg some HR_.out)) (by decide)
                  |
                   obtain rfl := Option.some.inj H
                   go_wp2_with (first | ((with_reducible refine gate_callee (f := 37) rfl ?_); refine goesL_ (some 187) rfl rfl Try.func37 (by kernel_rfl) rfl #[.int .i64 t218, .bool t219, .int .i64 t220, .int .i64 t221] rfl (by (try simp only [List.map_toArray, List.map_cons, List.map_nil]); first | done | rfl | (simp only [List.length_drop, List.length_take]; rfl)) ?_; (with_reducible refine (impl_RowBehind.calls t218 t219 t220 t221 t229 true _ A59.out).mono ?_); rintro e w71 ⟨rfl, hb⟩; refine ⟨_, rfl, ?_⟩; have n0_ := Aside0.mk (below_step (by repeat (first | (with_reducible first | exact HB.out | apply below_alloc | apply pw_below_drewN | apply below_drew1) | exact HB.out)) hb); clear HB; have HB := n0_; clear n0_; (try clear hb); (try clear hb2); (try clear hk); (try clear hi)) | ((with_reducible refine gate_callee (f := 37) rfl ?_); refine goesL_ (some 196) rfl rfl Try.func37 (by kernel_rfl) rfl #[.int .i64 t218, .bool t219, .int .i64 t220, .int .i64 (wrap64 (t221 - 1))] rfl (by (try simp only [List.map_toArray, List.map_cons, List.map_nil]); first | done | rfl | (simp only [List.length_drop, List.length_take]; rfl)) ?_; (with_reducible refine (impl_RowBehind.calls t218 t219 t220 (wrap64 (t221 - 1)) t231 t232 _ A60.out).mono ?_); rintro e w72 ⟨rfl, hb⟩; refine ⟨_, rfl, ?_⟩; have n0_ := Aside0.mk (below_step (by repeat (first | (with_reducible first | exact HB.out | apply below_alloc | apply pw_below_drewN | apply below_drew1) | exact HB.out)) hb); clear HB; have HB := n0_; clear n0_; (try clear hb); (try clear hb2); (try clear hk); (try clear hi)))
                   go_ret
                   exact ⟨by first | rfl | (simp [errW_none, errW_some] <;> rfl) | (simp [*, errW_none, errW_some] <;> rfl), by repeat (first | (with_reducible first | exact HB.out | apply below_alloc | apply pw_below_drewN | apply below_drew1) | exact HB.out)⟩
                ·
                 replace c61 := Bool.eq_false_iff.mpr c61
                 subst c61
                 have H1 : (some false) = some r := by rw [if_neg (show ¬ (false = true) by decide)] at H; exact H
                 clear H
                 have H := H1
                 clear H1
                 first
                 | exact absurd (H.trans (congrArg some HR_.out)) (by decide)
                 |
                  obtain rfl := Option.some.inj H
                  go_wp2_with (first | ((with_reducible refine gate_callee (f := 37) rfl ?_); refine goesL_ (some 187) rfl rfl Try.func37 (by kernel_rfl) rfl #[.int .i64 t218, .bool t219, .int .i64 t220, .int .i64 t221] rfl (by (try simp only [List.map_toArray, List.map_cons, List.map_nil]); first | done | rfl | (simp only [List.length_drop, List.length_take]; rfl)) ?_; (with_reducible refine (impl_RowBehind.calls t218 t219 t220 t221 t229 false _ A59.out).mono ?_); rintro e w73 ⟨rfl, hb⟩; refine ⟨_, rfl, ?_⟩; have n0_ := Aside0.mk (below_step (by repeat (first | (with_reducible first | exact HB.out | apply below_alloc | apply pw_below_drewN | apply below_drew1) | exact HB.out)) hb); clear HB; have HB := n0_; clear n0_; (try clear hb); (try clear hb2); (try clear hk); (try clear hi)) | ((with_reducible refine gate_callee (f := 37) rfl ?_); refine goesL_ (some 196) rfl rfl Try.func37 (by kernel_rfl) rfl #[.int .i64 t218, .bool t219, .int .i64 t220, .int .i64 (wrap64 (t221 - 1))] rfl (by (try simp only [List.map_toArray, List.map_cons, List.map_nil]); first | done | rfl | (simp only [List.length_drop, List.length_take]; rfl)) ?_; (with_reducible refine (impl_RowBehind.calls t218 t219 t220 (wrap64 (t221 - 1)) t231 t232 _ A60.out).mono ?_); rintro e w74 ⟨rfl, hb⟩; refine ⟨_, rfl, ?_⟩; have n0_ := Aside0.mk (below_step (by repeat (first | (with_reducible first | exact HB.out | apply below_alloc | apply pw_below_drewN | apply below_drew1) | exact HB.out)) hb); clear HB; have HB := n0_; clear n0_; (try clear hb); (try clear hb2); (try clear hk); (try clear hi)))
                  go_ret
                  exact ⟨by first | rfl | (simp [errW_none, errW_some] <;> rfl) | (simp [*, errW_none, errW_some] <;> rfl), by repeat (first | (with_reducible first | exact HB.out | apply below_alloc | apply pw_below_drewN | apply below_drew1) | exact HB.out)⟩
               ·
                replace c58 := Bool.eq_false_iff.mpr c58
                subst c58
                have H1 : (laws_FnRowsTellNullities.j5 kj54 l0 l1) = some r := by rw [if_neg (show ¬ (false = true) by decide)] at H; exact H
                clear H
                have H := H1
                clear H1
                have H' := Aside0.mk H
                clear H
                go_wp2
                go_meet
                case rel => exact ⟨_, H', ⟨by have := HJ7.out; have := HJ12.out; have := HJ14.out; have := HJ46.out; have := HJ54.out; first | omega | exact Nat.le_refl _⟩, ⟨by repeat (first | (with_reducible first | exact HB.out | apply below_alloc | apply pw_below_drewN | apply below_drew1) | exact HB.out)⟩⟩
              case rest => as_aux_lemma =>
               clear HC57
               try clear c1
               try clear c2
               try clear p2
               try clear c3
               try clear c4
               try clear c5
               try clear c6
               try clear p6
               try clear c11
               try clear c11b0
               try clear c11b1
               try clear c11b2
               try clear c12
               try clear c14
               try clear c15
               try clear c16
               try clear c19
               try clear c20
               try clear c21
               try clear c21b0
               try clear c21b1
               try clear c29
               try clear c30
               try clear c31
               try clear c32
               try clear c33
               try clear c34
               try clear c35
               try clear c36
               try clear c37
               try clear c51
               try clear c51b0
               try clear c51b1
               try clear c51b2
               try clear c52
               try clear c52b0
               try clear c52b1
               try clear c53
               try clear c53b0
               try clear c53b1
               try clear c53b2
               try clear c54
               try clear c56
               try clear c58
               try clear c61
               try clear c62
               try clear c62b0
               try clear c62b1
               try clear c63
               try clear c64
               try clear c64b0
               try clear c64b1
               try clear p64
               try clear hcz25_0
               try clear hcz25_1
               try clear hcz30_0
               try clear hcz30_1
               try clear hcz35_0
               try clear hcz35_1
               try clear hcz40_0
               try clear hcz40_1
               try clear hfz25_0
               try clear hfz25_1
               try clear hfz30_0
               try clear hfz30_1
               try clear hfz35_0
               try clear hfz35_1
               try clear hfz40_0
               try clear hfz40_1
               try clear p2
               try clear p6
               obtain ⟨kq, HA, HJ56, HB⟩ := hcut
               cases kq with
               | zero => exact absurd HA.out (by simp [laws_FnRowsTellNullities.j5])
               | succ kj56 =>
                have H := HA.out
                clear HA
                simp only [laws_FnRowsTellNullities.j5] at H
                replace H := Option.bind_eq_some_iff.mp H
                obtain ⟨⟨t233, t234, t235, t236⟩, A750, H⟩ := H
                replace H : ((impl_QuietRows.f t233 t234 t235 t236).bind fun bt237 => ((spec_QuietRows.f kj56 t233 t234 t235 t236).bind fun bt241 => (if (bt237.2 != bt241.2) = true then (laws_FnRowsTellNullities.j6 kj56 l0 t233 t234 t235 bt237.1 true) else ((laws_hSame.f kj56 bt237.1 bt241.1).bind fun t245 => (laws_FnRowsTellNullities.j6 kj56 l0 t233 t234 t235 bt237.1 (!t245)))))) = some r := H
                have A75 := Aside0.mk A750
                clear A750
                replace H := Option.bind_eq_some_iff.mp H
                obtain ⟨⟨t237, t238⟩, A760, H⟩ := H
                replace H : ((spec_QuietRows.f kj56 t233 t234 t235 t236).bind fun bt241 => (if (t238 != bt241.2) = true then (laws_FnRowsTellNullities.j6 kj56 l0 t233 t234 t235 t237 true) else ((laws_hSame.f kj56 t237 bt241.1).bind fun t245 => (laws_FnRowsTellNullities.j6 kj56 l0 t233 t234 t235 t237 (!t245))))) = some r := H
                have A76 := Aside0.mk A760
                clear A760
                replace H := Option.bind_eq_some_iff.mp H
                obtain ⟨⟨t241, t242⟩, A770, H⟩ := H
                replace H : (if (t238 != t242) = true then (laws_FnRowsTellNullities.j6 kj56 l0 t233 t234 t235 t237 true) else ((laws_hSame.f kj56 t237 t241).bind fun t245 => (laws_FnRowsTellNullities.j6 kj56 l0 t233 t234 t235 t237 (!t245)))) = some r := H
                have A77 := Aside0.mk A770
                clear A770
                have HC78 := Aside0.mk H
                clear H
                go_upto_region 28 with (first | ((with_reducible refine gate_callee (f := 38) rfl ?_); refine goesL_ (some 216) rfl rfl Try.func38 (by kernel_rfl) rfl #[.slice A1 l1.length c1] rfl (by (try simp only [List.map_toArray, List.map_cons, List.map_nil]); first | done | rfl | (simp only [List.length_drop, List.length_take]; rfl)) ?_; (with_reducible refine (spec_DrawQuietRows.calls _ _ l1 t233 t234 t235 t236 _ ?side1 ?side2 A75.out).mono ?_); (case side1 => repeat (first | exact (Kd.C_below HR1.out HB.out) | (with_reducible refine Kd.C_alloc ?_ _) | (with_reducible refine Kd.C_drewN ?_ _) | (with_reducible refine Kd.C_drew ?_))); (case side2 => exact HC1.out); rintro e w79 ⟨rfl, hb⟩; refine ⟨_, rfl, ?_⟩; have n0_ := Aside0.mk (below_step (by repeat (first | (with_reducible first | exact HB.out | apply below_alloc | apply pw_below_drewN | apply below_drew1) | exact HB.out)) hb); clear HB; have HB := n0_; clear n0_; (try clear hb); (try clear hb2); (try clear hk); (try clear hi)) | ((with_reducible refine gate_callee (f := 39) rfl ?_); refine goesL_ (some 226) rfl rfl Try.func39 (by kernel_rfl) rfl #[.int .i64 t233, .bool t234, .int .i64 t235, .int .i64 t236] rfl (by (try simp only [List.map_toArray, List.map_cons, List.map_nil]); first | done | rfl | (simp only [List.length_drop, List.length_take]; rfl)) ?_; (with_reducible refine (impl_QuietRows.calls t233 t234 t235 t236 t237 t238 _ A76.out).mono ?_); rintro e w80 ⟨v239, rfl, ho0, hb⟩; refine ⟨_, rfl, ?_⟩; have n0_ := Aside0.mk (Kd.R_lower ho0 (below_size (by repeat (first | (with_reducible first | exact HB.out | apply below_alloc | apply pw_below_drewN | apply below_drew1) | exact HB.out)))); have n1_ := Aside0.mk (below_step (by repeat (first | (with_reducible first | exact HB.out | apply below_alloc | apply pw_below_drewN | apply below_drew1) | exact HB.out)) hb); clear HB; have HO240 := n0_; have HB := n1_; clear n0_ n1_; (try clear hb); (try clear hb2); (try clear hk); (try clear hi); (try clear ho0)) | ((with_reducible refine gate_callee (f := 40) rfl ?_); refine goesL_ (some 234) rfl rfl Try.func40 (by kernel_rfl) rfl #[.int .i64 t233, .bool t234, .int .i64 t235, .int .i64 t236] rfl (by (try simp only [List.map_toArray, List.map_cons, List.map_nil]); first | done | rfl | (simp only [List.length_drop, List.length_take]; rfl)) ?_; (with_reducible refine (spec_QuietRows.calls kj56 t233 t234 t235 t236 t241 t242 _ A77.out).mono ?_); rintro e w81 ⟨v243, rfl, ho0, hb⟩; refine ⟨_, rfl, ?_⟩; have n0_ := Aside0.mk (Kd.R_elder' (by (with_reducible repeat (first | apply Kd.R_alloc | apply Kd.R_drewN | apply Kd.R_drew)); exact HO240.out) (Kd.R_base ho0) hb); have n1_ := Aside0.mk (Kd.R_lower (Kd.R_new' ho0 (Kd.R_lt (by (with_reducible repeat (first | apply Kd.R_alloc | apply Kd.R_drewN | apply Kd.R_drew)); exact HO240.out))) (below_size (by repeat (first | (with_reducible first | exact HB.out | apply below_alloc | apply pw_below_drewN | apply below_drew1) | exact HB.out)))); have n2_ := Aside0.mk (below_step (by repeat (first | (with_reducible first | exact HB.out | apply below_alloc | apply pw_below_drewN | apply below_drew1) | exact HB.out)) hb); clear HO240; clear HB; have HO240 := n0_; have HO244 := n1_; have HB := n2_; clear n0_ n1_ n2_; (try clear hb); (try clear hb2); (try clear hk); (try clear hi); (try clear ho0)))
                (try simp only [Act.put, List.setIfInBounds_toArray, List.set_cons_zero, List.set_cons_succ])
                go_cut [245] (fun v245 wc => ∃ (kq : Nat) (x245_77 : Bool), v245 = .bool x245_77 ∧ Aside0 (laws_FnRowsTellNullities.j6 kq l0 t233 t234 t235 t237 x245_77 = some r) ∧ Aside0 (kq ≤ kj56) ∧ Aside0 (Kd.R (Kd.int .i64) 3 wc w.heap.size (fun _ => True) v239 t237) ∧ Aside0 (Below w.heap.size w wc))
                case first => as_aux_lemma =>
                 have H := HC78.out
                 clear HC78
                 by_cases c82 : (t238 != t242) = true
                 ·
                  rw [if_pos c82] at H
                  have c82b0 : (t238 != t242) = true := c82
                  (try (have c82b1 : decide (t238 = t242) = false := by simpa using c82))
                  (try (have c82b2 : (t238 == t242) = false := by simpa using c82))
                  (try (have c82b3 : ¬ (t238 = t242) := by simpa using c82))
                  clear c82
                  (first | rw [c82b0] | (simp only [i64_w, i32_w]; rw [c82b0]) | skip)
                  first
                  | exact absurd (H.trans (congrArg some HR_.out)) (by cases kj56 <;> simp [laws_FnRowsTellNullities.j6])
                  |
                   have H' := Aside0.mk H
                   clear H
                   go_wp2
                   go_meet
                   case rel => exact ⟨_, (true), (by first | rfl | (simp; done) | (simp [*]; done)), H', ⟨by have := HJ7.out; have := HJ12.out; have := HJ14.out; have := HJ46.out; have := HJ54.out; have := HJ56.out; first | omega | exact Nat.le_refl _⟩, ⟨by (with_reducible repeat (first | apply Kd.R_alloc | apply Kd.R_drewN | apply Kd.R_drew)); exact Kd.R_mono HO240.out (fun _ hk => trivial)⟩, ⟨by repeat (first | (with_reducible first | exact HB.out | apply below_alloc | apply pw_below_drewN | apply below_drew1) | exact HB.out)⟩⟩
                 ·
                  rw [if_neg c82] at H
                  have c82b0 : (t238 != t242) = false := by simpa using c82
                  (try (have c82b1 : decide (t238 = t242) = true := by simpa using c82))
                  (try (have c82b2 : (t238 == t242) = true := by simpa using c82))
                  clear c82
                  (first | rw [c82b0] | (simp only [i64_w, i32_w]; rw [c82b0]) | skip)
                  replace H := Option.bind_eq_some_iff.mp H
                  obtain ⟨t245, A830, H⟩ := H
                  replace H : (laws_FnRowsTellNullities.j6 kj56 l0 t233 t234 t235 t237 (!t245)) = some r := H
                  have A83 := Aside0.mk A830
                  clear A830
                  have H' := Aside0.mk H
                  clear H
                  obtain ⟨Ao84, co84, eo84⟩ := Kd.R_slice HO240.out
                  subst eo84
                  obtain ⟨Ao85, co85, eo85⟩ := Kd.R_slice HO244.out
                  subst eo85
                  go_wp2_with (first | (go_at_call 10; (with_reducible refine (laws_hSame.calls kj56 _ _ t237 _ _ t241 t245 _ ?side1 ?side2 ?side3 ?side4 A83.out).mono ?_); (case side1 => repeat (first | exact (Kd.R_reads' HO240.out).2.2 | (with_reducible refine Kd.C_alloc ?_ _) | (with_reducible refine Kd.C_drewN ?_ _) | (with_reducible refine Kd.C_drew ?_))); (case side2 => exact (Kd.R_reads' HO240.out).2.1); (case side3 => repeat (first | exact (Kd.R_reads' HO244.out).2.2 | (with_reducible refine Kd.C_alloc ?_ _) | (with_reducible refine Kd.C_drewN ?_ _) | (with_reducible refine Kd.C_drew ?_))); (case side4 => exact (Kd.R_reads' HO244.out).2.1); rintro e w' ⟨rfl, ⟨nd, rfl⟩⟩))
                  go_meet
                  case rel => exact ⟨_, (!t245), (by first | rfl | (simp; done) | (simp [*]; done)), H', ⟨by have := HJ7.out; have := HJ12.out; have := HJ14.out; have := HJ46.out; have := HJ54.out; have := HJ56.out; first | omega | exact Nat.le_refl _⟩, ⟨by (with_reducible repeat (first | apply Kd.R_alloc | apply Kd.R_drewN | apply Kd.R_drew)); exact Kd.R_mono HO240.out (fun _ hk => trivial)⟩, ⟨by repeat (first | (with_reducible first | exact HB.out | apply below_alloc | apply pw_below_drewN | apply below_drew1) | exact HB.out)⟩⟩
                case rest => as_aux_lemma =>
                 clear HC78
                 try clear c1
                 try clear c2
                 try clear p2
                 try clear c3
                 try clear c4
                 try clear c5
                 try clear c6
                 try clear p6
                 try clear c8
                 try clear c11
                 try clear c11b0
                 try clear c11b1
                 try clear c11b2
                 try clear c12
                 try clear c14
                 try clear c15
                 try clear c16
                 try clear c19
                 try clear c20
                 try clear c21
                 try clear c21b0
                 try clear c21b1
                 try clear c29
                 try clear c30
                 try clear c31
                 try clear c32
                 try clear c33
                 try clear c34
                 try clear c35
                 try clear c36
                 try clear c37
                 try clear c38
                 try clear c39
                 try clear c40
                 try clear c51
                 try clear c51b0
                 try clear c51b1
                 try clear c51b2
                 try clear c52
                 try clear c52b0
                 try clear c52b1
                 try clear c53
                 try clear c53b0
                 try clear c53b1
                 try clear c53b2
                 try clear c54
                 try clear c56
                 try clear c58
                 try clear c61
                 try clear c62
                 try clear c62b0
                 try clear c62b1
                 try clear c63
                 try clear c64
                 try clear c64b0
                 try clear c64b1
                 try clear p64
                 try clear c82
                 try clear c82b0
                 try clear c82b1
                 try clear c82b2
                 try clear hcz25_0
                 try clear hcz25_1
                 try clear hcz30_0
                 try clear hcz30_1
                 try clear hcz35_0
                 try clear hcz35_1
                 try clear hcz40_0
                 try clear hcz40_1
                 try clear hfz25_0
                 try clear hfz25_1
                 try clear hfz30_0
                 try clear hfz30_1
                 try clear hfz35_0
                 try clear hfz35_1
                 try clear hfz40_0
                 try clear hfz40_1
                 try clear p2
                 try clear p6
                 try clear p64
                 obtain ⟨kq, x245_77, rfl, HA, HJ77, HO_35, HB⟩ := hcut
                 cases kq with
                 | zero => exact absurd HA.out (by simp [laws_FnRowsTellNullities.j6])
                 | succ kj77 =>
                  have H := HA.out
                  clear HA
                  simp only [laws_FnRowsTellNullities.j6] at H
                  by_cases c86 : x245_77 = true
                  ·
                   subst c86
                   have H1 : (some false) = some r := by rw [if_pos rfl] at H; exact H
                   clear H
                   have H := H1
                   clear H1
                   first
                   | exact absurd (H.trans (congrArg some HR_.out)) (by decide)
                   |
                    obtain rfl := Option.some.inj H
                    go_wp2
                    go_ret
                    exact ⟨by first | rfl | (simp [errW_none, errW_some] <;> rfl) | (simp [*, errW_none, errW_some] <;> rfl), by repeat (first | (with_reducible first | exact HB.out | apply below_alloc | apply pw_below_drewN | apply below_drew1) | exact HB.out)⟩
                  ·
                   replace c86 := Bool.eq_false_iff.mpr c86
                   subst c86
                   have H1 : (laws_FnRowsTellNullities.l0 kj77 l0 t233 t234 t235 t237 t237 (t237.length : Int) 0) = some r := by rw [if_neg (show ¬ (false = true) by decide)] at H; exact H
                   clear H
                   have H := H1
                   clear H1
                   have H' := Aside0.mk H
                   clear H
                   obtain ⟨Ao87, co87, eo87⟩ := Kd.R_slice HO_35.out
                   subst eo87
                   go_wp2
                   go_loopg [248] kj77 (fun kq v248 w' => ∃ (x248_8 : Int), v248 = .int .i64 x248_8 ∧ Aside0 (laws_FnRowsTellNullities.l0 kq l0 t233 t234 t235 t237 t237 (t237.length : Int) x248_8 = some r) ∧ Aside0 (kq ≤ kj77) ∧ Aside0 (Kd.R (Kd.int .i64) 3 w' w.heap.size (fun _ => True) (.slice Ao87 t237.length co87) t237) ∧ Aside0 (Kd.R (Kd.int .i64) 3 w' w.heap.size (fun _ => True) (.slice Ao87 t237.length co87) t237) ∧ Aside0 (Below w.heap.size w w'))
                   case atStart => exact ⟨(0), (by first | rfl | (simp; done) | (simp [*]; done)), H', ⟨Nat.le_refl _⟩, ⟨by (with_reducible repeat (first | apply Kd.R_alloc | apply Kd.R_drewN | apply Kd.R_drew)); exact HO_35.out⟩, ⟨by (with_reducible repeat (first | apply Kd.R_alloc | apply Kd.R_drewN | apply Kd.R_drew)); exact HO_35.out⟩, ⟨by repeat (first | (with_reducible first | exact HB.out | apply below_alloc | apply pw_below_drewN | apply below_drew1) | exact HB.out)⟩⟩
                   case round => as_aux_lemma =>
                    clear H'
                    try clear c1
                    try clear c2
                    try clear p2
                    try clear c3
                    try clear c4
                    try clear c5
                    try clear c6
                    try clear p6
                    try clear c8
                    try clear c11
                    try clear c11b0
                    try clear c11b1
                    try clear c11b2
                    try clear c12
                    try clear c14
                    try clear c15
                    try clear c16
                    try clear c19
                    try clear c20
                    try clear c21
                    try clear c21b0
                    try clear c21b1
                    try clear c29
                    try clear c30
                    try clear c31
                    try clear c32
                    try clear c33
                    try clear c34
                    try clear c35
                    try clear c36
                    try clear c37
                    try clear c38
                    try clear c39
                    try clear c40
                    try clear c51
                    try clear c51b0
                    try clear c51b1
                    try clear c51b2
                    try clear c52
                    try clear c52b0
                    try clear c52b1
                    try clear c53
                    try clear c53b0
                    try clear c53b1
                    try clear c53b2
                    try clear c54
                    try clear c56
                    try clear c58
                    try clear c61
                    try clear c62
                    try clear c62b0
                    try clear c62b1
                    try clear c63
                    try clear c64
                    try clear c64b0
                    try clear c64b1
                    try clear p64
                    try clear c82
                    try clear c82b0
                    try clear c82b1
                    try clear c82b2
                    try clear c86
                    try clear hcz25_0
                    try clear hcz25_1
                    try clear hcz30_0
                    try clear hcz30_1
                    try clear hcz35_0
                    try clear hcz35_1
                    try clear hcz40_0
                    try clear hcz40_1
                    try clear hfz25_0
                    try clear hfz25_1
                    try clear hfz30_0
                    try clear hfz30_1
                    try clear hfz35_0
                    try clear hfz35_1
                    try clear hfz40_0
                    try clear hfz40_1
                    try clear p2
                    try clear p6
                    try clear p64
                    obtain ⟨x248_8, rfl, HA, HK8, HO_35, HO_246, HB⟩ := hrel
                    cases gk with
                    | zero => exact absurd HA.out (by simp [laws_FnRowsTellNullities.l0])
                    | succ k8 =>
                     have H := HA.out
                     clear HA
                     simp only [laws_FnRowsTellNullities.l0] at H
                     by_cases c88 : x248_8 < (t237.length : Int)
                     ·
                      rw [if_pos c88] at H
                      have c88b0 : decide (x248_8 < (t237.length : Int)) = true := decide_eq_true c88
                      clear c88
                      by_cases c89 : 0 ≤ x248_8
                      ·
                       rw [if_pos c89] at H
                       have c89b0 : decide (0 ≤ x248_8) = true := decide_eq_true c89
                       clear c89
                       by_cases c90 : x248_8 < (t237.length : Int)
                       ·
                        rw [if_pos c90] at H
                        have c90b0 : decide (x248_8 < (t237.length : Int)) = true := decide_eq_true c90
                        clear c90
                        replace H := Option.bind_eq_some_iff.mp H
                        obtain ⟨⟨t247, t248⟩, A910, H⟩ := H
                        replace H : ((impl_NullityByRows.f (rd t237 x248_8) t233 t234).bind fun bt249 => (if t248 = true then (if t247 = 0 then (if bt249.2 = true then (if bt249.1 < 1 then (some false) else (if 0 < (t237.length : Int) then (if (wrap64 ((rd t237 x248_8) + 1)) = (wrap64 ((wrap64 (x248_8 + 1)) * (wrap64 ((rd t237 0) + 1)))) then (laws_FnRowsTellNullities.l0 k8 l0 t233 t234 t235 t237 t237 (t237.length : Int) (wrap64 (x248_8 + 1))) else (some false)) else (none))) else (some false)) else (some false)) else (some false))) = some r := H
                        have A91 := Aside0.mk A910
                        clear A910
                        replace H := Option.bind_eq_some_iff.mp H
                        obtain ⟨⟨t249, t250⟩, A920, H⟩ := H
                        replace H : (if t248 = true then (if t247 = 0 then (if t250 = true then (if t249 < 1 then (some false) else (if 0 < (t237.length : Int) then (if (wrap64 ((rd t237 x248_8) + 1)) = (wrap64 ((wrap64 (x248_8 + 1)) * (wrap64 ((rd t237 0) + 1)))) then (laws_FnRowsTellNullities.l0 k8 l0 t233 t234 t235 t237 t237 (t237.length : Int) (wrap64 (x248_8 + 1))) else (some false)) else (none))) else (some false)) else (some false)) else (some false)) = some r := H
                        have A92 := Aside0.mk A920
                        clear A920
                        by_cases c93 : t248 = true
                        ·
                         subst c93
                         have H1 : (if t247 = 0 then (if t250 = true then (if t249 < 1 then (some false) else (if 0 < (t237.length : Int) then (if (wrap64 ((rd t237 x248_8) + 1)) = (wrap64 ((wrap64 (x248_8 + 1)) * (wrap64 ((rd t237 0) + 1)))) then (laws_FnRowsTellNullities.l0 k8 l0 t233 t234 t235 t237 t237 (t237.length : Int) (wrap64 (x248_8 + 1))) else (some false)) else (none))) else (some false)) else (some false)) = some r := by rw [if_pos rfl] at H; exact H
                         clear H
                         have H := H1
                         clear H1
                         by_cases c94 : t247 = 0
                         ·
                          rw [if_pos c94] at H
                          have c94b0 : (t247 == 0) = true := beq_iff_eq.mpr c94
                          have c94b1 : (t247 != 0) = false := bne_eq_false_iff_eq.mpr c94
                          clear c94
                          by_cases c95 : t250 = true
                          ·
                           subst c95
                           have H1 : (if t249 < 1 then (some false) else (if 0 < (t237.length : Int) then (if (wrap64 ((rd t237 x248_8) + 1)) = (wrap64 ((wrap64 (x248_8 + 1)) * (wrap64 ((rd t237 0) + 1)))) then (laws_FnRowsTellNullities.l0 k8 l0 t233 t234 t235 t237 t237 (t237.length : Int) (wrap64 (x248_8 + 1))) else (some false)) else (none))) = some r := by rw [if_pos rfl] at H; exact H
                           clear H
                           have H := H1
                           clear H1
                           by_cases c96 : t249 < 1
                           ·
                            rw [if_pos c96] at H
                            have c96b0 : decide (t249 < 1) = true := decide_eq_true c96
                            clear c96
                            first
                            | exact absurd (H.trans (congrArg some HR_.out)) (by decide)
                            |
                             obtain rfl := Option.some.inj H
                             have p246 : 0 ≤ (x248_8 : Int) := of_decide_eq_true (by first | (with_reducible assumption) | assumption)
                             have q246 : x248_8 < (t237.length : Int) := of_decide_eq_true (by first | (with_reducible assumption) | assumption)
                             obtain ⟨ad246, e246, hx246_0⟩ := Kd.at_int (Kd.R_reads' HO_246.out).2.2 x248_8 p246 q246
                             cases e246
                             replace p246 := eq_true p246
                             replace q246 := eq_true q246
                             go_wp2_with (first | ((with_reducible refine gate_callee (f := 37) rfl ?_); refine goesL_ (some 258) rfl rfl Try.func37 (by kernel_rfl) rfl #[.int .i64 t233, .bool t234, .int .i64 t235, .int .i64 (rd t237 x248_8)] rfl (by (try simp only [List.map_toArray, List.map_cons, List.map_nil]); first | done | rfl | (simp only [List.length_drop, List.length_take]; rfl)) ?_; (with_reducible refine (impl_RowBehind.calls t233 t234 t235 (rd t237 x248_8) t247 true _ A91.out).mono ?_); rintro e w97 ⟨rfl, hb⟩; refine ⟨_, rfl, ?_⟩; have n0_ := Aside0.mk (Kd.R_below (by (with_reducible repeat (first | apply Kd.R_alloc | apply Kd.R_drewN | apply Kd.R_drew)); exact HO_35.out) hb); have n1_ := Aside0.mk (Kd.R_below (by (with_reducible repeat (first | apply Kd.R_alloc | apply Kd.R_drewN | apply Kd.R_drew)); exact HO_246.out) hb); have n2_ := Aside0.mk (below_step (by repeat (first | (with_reducible first | exact HB.out | apply below_alloc | apply pw_below_drewN | apply below_drew1) | exact HB.out)) hb); clear HO_35; clear HO_246; clear HB; have HO_35 := n0_; have HO_246 := n1_; have HB := n2_; clear n0_ n1_ n2_; (try clear hb); (try clear hb2); (try clear hk); (try clear hi)) | ((with_reducible refine gate_callee (f := 15) rfl ?_); refine goesL_ (some 265) rfl rfl Try.func15 (by kernel_rfl) rfl #[.int .i64 (rd t237 x248_8), .int .i64 t233, .bool t234] rfl (by (try simp only [List.map_toArray, List.map_cons, List.map_nil]); first | done | rfl | (simp only [List.length_drop, List.length_take]; rfl)) ?_; (with_reducible refine (impl_NullityByRows.calls (rd t237 x248_8) t233 t234 t249 true _ A92.out).mono ?_); rintro e w98 ⟨rfl, hb⟩; refine ⟨_, rfl, ?_⟩; have n0_ := Aside0.mk (Kd.R_below (by (with_reducible repeat (first | apply Kd.R_alloc | apply Kd.R_drewN | apply Kd.R_drew)); exact HO_35.out) hb); have n1_ := Aside0.mk (Kd.R_below (by (with_reducible repeat (first | apply Kd.R_alloc | apply Kd.R_drewN | apply Kd.R_drew)); exact HO_246.out) hb); have n2_ := Aside0.mk (below_step (by repeat (first | (with_reducible first | exact HB.out | apply below_alloc | apply pw_below_drewN | apply below_drew1) | exact HB.out)) hb); clear HO_35; clear HO_246; clear HB; have HO_35 := n0_; have HO_246 := n1_; have HB := n2_; clear n0_ n1_ n2_; (try clear hb); (try clear hb2); (try clear hk); (try clear hi)))
                             go_ret
                             exact ⟨by first | rfl | (simp [errW_none, errW_some] <;> rfl) | (simp [*, errW_none, errW_some] <;> rfl), by repeat (first | (with_reducible first | exact HB.out | apply below_alloc | apply pw_below_drewN | apply below_drew1) | exact HB.out)⟩
                           ·
                            rw [if_neg c96] at H
                            have c96b0 : decide (t249 < 1) = false := decide_eq_false c96
                            clear c96
                            by_cases c99 : 0 < (t237.length : Int)
                            ·
                             rw [if_pos c99] at H
                             have c99b0 : decide (0 < (t237.length : Int)) = true := decide_eq_true c99
                             have c99b1 : decide (0 < t237.length) = true := decide_eq_true (by omega)
                             clear c99
                             by_cases c100 : (wrap64 ((rd t237 x248_8) + 1)) = (wrap64 ((wrap64 (x248_8 + 1)) * (wrap64 ((rd t237 0) + 1))))
                             ·
                              rw [if_pos c100] at H
                              have c100b0 : ((wrap64 ((rd t237 x248_8) + 1)) == (wrap64 ((wrap64 (x248_8 + 1)) * (wrap64 ((rd t237 0) + 1))))) = true := beq_iff_eq.mpr c100
                              have c100b1 : ((wrap64 ((rd t237 x248_8) + 1)) != (wrap64 ((wrap64 (x248_8 + 1)) * (wrap64 ((rd t237 0) + 1))))) = false := bne_eq_false_iff_eq.mpr c100
                              clear c100
                              have H' := Aside0.mk H
                              clear H
                              have p246 : 0 ≤ (x248_8 : Int) := of_decide_eq_true (by first | (with_reducible assumption) | assumption)
                              have q246 : x248_8 < (t237.length : Int) := of_decide_eq_true (by first | (with_reducible assumption) | assumption)
                              obtain ⟨ad246, e246, hx246_0⟩ := Kd.at_int (Kd.R_reads' HO_246.out).2.2 x248_8 p246 q246
                              cases e246
                              replace p246 := eq_true p246
                              replace q246 := eq_true q246
                              go_wp2_with (first | ((with_reducible refine gate_callee (f := 37) rfl ?_); refine goesL_ (some 258) rfl rfl Try.func37 (by kernel_rfl) rfl #[.int .i64 t233, .bool t234, .int .i64 t235, .int .i64 (rd t237 x248_8)] rfl (by (try simp only [List.map_toArray, List.map_cons, List.map_nil]); first | done | rfl | (simp only [List.length_drop, List.length_take]; rfl)) ?_; (with_reducible refine (impl_RowBehind.calls t233 t234 t235 (rd t237 x248_8) t247 true _ A91.out).mono ?_); rintro e w101 ⟨rfl, hb⟩; refine ⟨_, rfl, ?_⟩; have n0_ := Aside0.mk (Kd.R_below (by (with_reducible repeat (first | apply Kd.R_alloc | apply Kd.R_drewN | apply Kd.R_drew)); exact HO_35.out) hb); have n1_ := Aside0.mk (Kd.R_below (by (with_reducible repeat (first | apply Kd.R_alloc | apply Kd.R_drewN | apply Kd.R_drew)); exact HO_246.out) hb); have n2_ := Aside0.mk (below_step (by repeat (first | (with_reducible first | exact HB.out | apply below_alloc | apply pw_below_drewN | apply below_drew1) | exact HB.out)) hb); clear HO_35; clear HO_246; clear HB; have HO_35 := n0_; have HO_246 := n1_; have HB := n2_; clear n0_ n1_ n2_; (try clear hb); (try clear hb2); (try clear hk); (try clear hi)) | ((with_reducible refine gate_callee (f := 15) rfl ?_); refine goesL_ (some 265) rfl rfl Try.func15 (by kernel_rfl) rfl #[.int .i64 (rd t237 x248_8), .int .i64 t233, .bool t234] rfl (by (try simp only [List.map_toArray, List.map_cons, List.map_nil]); first | done | rfl | (simp only [List.length_drop, List.length_take]; rfl)) ?_; (with_reducible refine (impl_NullityByRows.calls (rd t237 x248_8) t233 t234 t249 true _ A92.out).mono ?_); rintro e w102 ⟨rfl, hb⟩; refine ⟨_, rfl, ?_⟩; have n0_ := Aside0.mk (Kd.R_below (by (with_reducible repeat (first | apply Kd.R_alloc | apply Kd.R_drewN | apply Kd.R_drew)); exact HO_35.out) hb); have n1_ := Aside0.mk (Kd.R_below (by (with_reducible repeat (first | apply Kd.R_alloc | apply Kd.R_drewN | apply Kd.R_drew)); exact HO_246.out) hb); have n2_ := Aside0.mk (below_step (by repeat (first | (with_reducible first | exact HB.out | apply below_alloc | apply pw_below_drewN | apply below_drew1) | exact HB.out)) hb); clear HO_35; clear HO_246; clear HB; have HO_35 := n0_; have HO_246 := n1_; have HB := n2_; clear n0_ n1_ n2_; (try clear hb); (try clear hb2); (try clear hk); (try clear hi); have p251 : 0 ≤ (0 : Int) := (by omega); have q251 : 0 < (t237.length : Int) := of_decide_eq_true (by first | (with_reducible assumption) | assumption); obtain ⟨ad251, e251, hx251_0⟩ := Kd.at_int (Kd.R_reads' HO_35.out).2.2 0 p251 q251; obtain rfl : ad246 = ad251 := (by injection e251); have qi251 : (0 < t237.length) = True := eq_true (by omega); (try rw [show ((0 : Int)).toNat = 0 from rfl] at hx251_0); (try rw [Addr.add_zero'] at hx251_0); replace p251 := eq_true p251; replace q251 := eq_true q251))
                              go_roundg k8
                              case measure => have := HJ7.out; have := HJ12.out; have := HJ14.out; have := HJ46.out; have := HJ54.out; have := HJ56.out; have := HJ77.out; have := HK8.out; omega
                              case rel => exact ⟨(wrap64 (x248_8 + 1)), (by first | rfl | (simp; done) | (simp [*]; done)), H', ⟨by have := HJ7.out; have := HJ12.out; have := HJ14.out; have := HJ46.out; have := HJ54.out; have := HJ56.out; have := HJ77.out; have := HK8.out; omega⟩, ⟨by (with_reducible repeat (first | apply Kd.R_alloc | apply Kd.R_drewN | apply Kd.R_drew)); exact HO_35.out⟩, ⟨by (with_reducible repeat (first | apply Kd.R_alloc | apply Kd.R_drewN | apply Kd.R_drew)); exact HO_246.out⟩, ⟨by repeat (first | (with_reducible first | exact HB.out | apply below_alloc | apply pw_below_drewN | apply below_drew1) | exact HB.out)⟩⟩
                             ·
                              rw [if_neg c100] at H
                              have c100b0 : ((wrap64 ((rd t237 x248_8) + 1)) == (wrap64 ((wrap64 (x248_8 + 1)) * (wrap64 ((rd t237 0) + 1))))) = false := beq_eq_false_iff_ne.mpr c100
                              have c100b1 : ((wrap64 ((rd t237 x248_8) + 1)) != (wrap64 ((wrap64 (x248_8 + 1)) * (wrap64 ((rd t237 0) + 1))))) = true := bne_iff_ne.mpr c100
                              first
                              | exact absurd (H.trans (congrArg some HR_.out)) (by decide)
                              |
                               obtain rfl := Option.some.inj H
                               have p246 : 0 ≤ (x248_8 : Int) := of_decide_eq_true (by first | (with_reducible assumption) | assumption)
                               have q246 : x248_8 < (t237.length : Int) := of_decide_eq_true (by first | (with_reducible assumption) | assumption)
                               obtain ⟨ad246, e246, hx246_0⟩ := Kd.at_int (Kd.R_reads' HO_246.out).2.2 x248_8 p246 q246
                               cases e246
                               replace p246 := eq_true p246
                               replace q246 := eq_true q246
                               go_wp2_with (first | ((with_reducible refine gate_callee (f := 37) rfl ?_); refine goesL_ (some 258) rfl rfl Try.func37 (by kernel_rfl) rfl #[.int .i64 t233, .bool t234, .int .i64 t235, .int .i64 (rd t237 x248_8)] rfl (by (try simp only [List.map_toArray, List.map_cons, List.map_nil]); first | done | rfl | (simp only [List.length_drop, List.length_take]; rfl)) ?_; (with_reducible refine (impl_RowBehind.calls t233 t234 t235 (rd t237 x248_8) t247 true _ A91.out).mono ?_); rintro e w103 ⟨rfl, hb⟩; refine ⟨_, rfl, ?_⟩; have n0_ := Aside0.mk (Kd.R_below (by (with_reducible repeat (first | apply Kd.R_alloc | apply Kd.R_drewN | apply Kd.R_drew)); exact HO_35.out) hb); have n1_ := Aside0.mk (Kd.R_below (by (with_reducible repeat (first | apply Kd.R_alloc | apply Kd.R_drewN | apply Kd.R_drew)); exact HO_246.out) hb); have n2_ := Aside0.mk (below_step (by repeat (first | (with_reducible first | exact HB.out | apply below_alloc | apply pw_below_drewN | apply below_drew1) | exact HB.out)) hb); clear HO_35; clear HO_246; clear HB; have HO_35 := n0_; have HO_246 := n1_; have HB := n2_; clear n0_ n1_ n2_; (try clear hb); (try clear hb2); (try clear hk); (try clear hi)) | ((with_reducible refine gate_callee (f := 15) rfl ?_); refine goesL_ (some 265) rfl rfl Try.func15 (by kernel_rfl) rfl #[.int .i64 (rd t237 x248_8), .int .i64 t233, .bool t234] rfl (by (try simp only [List.map_toArray, List.map_cons, List.map_nil]); first | done | rfl | (simp only [List.length_drop, List.length_take]; rfl)) ?_; (with_reducible refine (impl_NullityByRows.calls (rd t237 x248_8) t233 t234 t249 true _ A92.out).mono ?_); rintro e w104 ⟨rfl, hb⟩; refine ⟨_, rfl, ?_⟩; have n0_ := Aside0.mk (Kd.R_below (by (with_reducible repeat (first | apply Kd.R_alloc | apply Kd.R_drewN | apply Kd.R_drew)); exact HO_35.out) hb); have n1_ := Aside0.mk (Kd.R_below (by (with_reducible repeat (first | apply Kd.R_alloc | apply Kd.R_drewN | apply Kd.R_drew)); exact HO_246.out) hb); have n2_ := Aside0.mk (below_step (by repeat (first | (with_reducible first | exact HB.out | apply below_alloc | apply pw_below_drewN | apply below_drew1) | exact HB.out)) hb); clear HO_35; clear HO_246; clear HB; have HO_35 := n0_; have HO_246 := n1_; have HB := n2_; clear n0_ n1_ n2_; (try clear hb); (try clear hb2); (try clear hk); (try clear hi); have p251 : 0 ≤ (0 : Int) := (by omega); have q251 : 0 < (t237.length : Int) := of_decide_eq_true (by first | (with_reducible assumption) | assumption); obtain ⟨ad251, e251, hx251_0⟩ := Kd.at_int (Kd.R_reads' HO_35.out).2.2 0 p251 q251; obtain rfl : ad246 = ad251 := (by injection e251); have qi251 : (0 < t237.length) = True := eq_true (by omega); (try rw [show ((0 : Int)).toNat = 0 from rfl] at hx251_0); (try rw [Addr.add_zero'] at hx251_0); replace p251 := eq_true p251; replace q251 := eq_true q251))
                               go_ret
                               exact ⟨by first | rfl | (simp [errW_none, errW_some] <;> rfl) | (simp [*, errW_none, errW_some] <;> rfl), by repeat (first | (with_reducible first | exact HB.out | apply below_alloc | apply pw_below_drewN | apply below_drew1) | exact HB.out)⟩
                            ·
                             rw [if_neg c99] at H
                             exact absurd H (by simp)
                          ·
                           replace c95 := Bool.eq_false_iff.mpr c95
                           subst c95
                           have H1 : (some false) = some r := by rw [if_neg (show ¬ (false = true) by decide)] at H; exact H
                           clear H
                           have H := H1
                           clear H1
                           first
                           | exact absurd (H.trans (congrArg some HR_.out)) (by decide)
                           |
                            obtain rfl := Option.some.inj H
                            have p246 : 0 ≤ (x248_8 : Int) := of_decide_eq_true (by first | (with_reducible assumption) | assumption)
                            have q246 : x248_8 < (t237.length : Int) := of_decide_eq_true (by first | (with_reducible assumption) | assumption)
                            obtain ⟨ad246, e246, hx246_0⟩ := Kd.at_int (Kd.R_reads' HO_246.out).2.2 x248_8 p246 q246
                            cases e246
                            replace p246 := eq_true p246
                            replace q246 := eq_true q246
                            go_wp2_with (first | ((with_reducible refine gate_callee (f := 37) rfl ?_); refine goesL_ (some 258) rfl rfl Try.func37 (by kernel_rfl) rfl #[.int .i64 t233, .bool t234, .int .i64 t235, .int .i64 (rd t237 x248_8)] rfl (by (try simp only [List.map_toArray, List.map_cons, List.map_nil]); first | done | rfl | (simp only [List.length_drop, List.length_take]; rfl)) ?_; (with_reducible refine (impl_RowBehind.calls t233 t234 t235 (rd t237 x248_8) t247 true _ A91.out).mono ?_); rintro e w105 ⟨rfl, hb⟩; refine ⟨_, rfl, ?_⟩; have n0_ := Aside0.mk (Kd.R_below (by (with_reducible repeat (first | apply Kd.R_alloc | apply Kd.R_drewN | apply Kd.R_drew)); exact HO_35.out) hb); have n1_ := Aside0.mk (Kd.R_below (by (with_reducible repeat (first | apply Kd.R_alloc | apply Kd.R_drewN | apply Kd.R_drew)); exact HO_246.out) hb); have n2_ := Aside0.mk (below_step (by repeat (first | (with_reducible first | exact HB.out | apply below_alloc | apply pw_below_drewN | apply below_drew1) | exact HB.out)) hb); clear HO_35; clear HO_246; clear HB; have HO_35 := n0_; have HO_246 := n1_; have HB := n2_; clear n0_ n1_ n2_; (try clear hb); (try clear hb2); (try clear hk); (try clear hi)) | ((with_reducible refine gate_callee (f := 15) rfl ?_); refine goesL_ (some 265) rfl rfl Try.func15 (by kernel_rfl) rfl #[.int .i64 (rd t237 x248_8), .int .i64 t233, .bool t234] rfl (by (try simp only [List.map_toArray, List.map_cons, List.map_nil]); first | done | rfl | (simp only [List.length_drop, List.length_take]; rfl)) ?_; (with_reducible refine (impl_NullityByRows.calls (rd t237 x248_8) t233 t234 t249 false _ A92.out).mono ?_); rintro e w106 ⟨rfl, hb⟩; refine ⟨_, rfl, ?_⟩; have n0_ := Aside0.mk (Kd.R_below (by (with_reducible repeat (first | apply Kd.R_alloc | apply Kd.R_drewN | apply Kd.R_drew)); exact HO_35.out) hb); have n1_ := Aside0.mk (Kd.R_below (by (with_reducible repeat (first | apply Kd.R_alloc | apply Kd.R_drewN | apply Kd.R_drew)); exact HO_246.out) hb); have n2_ := Aside0.mk (below_step (by repeat (first | (with_reducible first | exact HB.out | apply below_alloc | apply pw_below_drewN | apply below_drew1) | exact HB.out)) hb); clear HO_35; clear HO_246; clear HB; have HO_35 := n0_; have HO_246 := n1_; have HB := n2_; clear n0_ n1_ n2_; (try clear hb); (try clear hb2); (try clear hk); (try clear hi)))
                            go_ret
                            exact ⟨by first | rfl | (simp [errW_none, errW_some] <;> rfl) | (simp [*, errW_none, errW_some] <;> rfl), by repeat (first | (with_reducible first | exact HB.out | apply below_alloc | apply pw_below_drewN | apply below_drew1) | exact HB.out)⟩
                         ·
                          rw [if_neg c94] at H
                          have c94b0 : (t247 == 0) = false := beq_eq_false_iff_ne.mpr c94
                          have c94b1 : (t247 != 0) = true := bne_iff_ne.mpr c94
                          first
                          | exact absurd (H.trans (congrArg some HR_.out)) (by decide)
                          |
                           obtain rfl := Option.some.inj H
                           have p246 : 0 ≤ (x248_8 : Int) := of_decide_eq_true (by first | (with_reducible assumption) | assumption)
                           have q246 : x248_8 < (t237.length : Int) := of_decide_eq_true (by first | (with_reducible assumption) | assumption)
                           obtain ⟨ad246, e246, hx246_0⟩ := Kd.at_int (Kd.R_reads' HO_246.out).2.2 x248_8 p246 q246
                           cases e246
                           replace p246 := eq_true p246
                           replace q246 := eq_true q246
                           go_wp2_with (first | ((with_reducible refine gate_callee (f := 37) rfl ?_); refine goesL_ (some 258) rfl rfl Try.func37 (by kernel_rfl) rfl #[.int .i64 t233, .bool t234, .int .i64 t235, .int .i64 (rd t237 x248_8)] rfl (by (try simp only [List.map_toArray, List.map_cons, List.map_nil]); first | done | rfl | (simp only [List.length_drop, List.length_take]; rfl)) ?_; (with_reducible refine (impl_RowBehind.calls t233 t234 t235 (rd t237 x248_8) t247 true _ A91.out).mono ?_); rintro e w107 ⟨rfl, hb⟩; refine ⟨_, rfl, ?_⟩; have n0_ := Aside0.mk (Kd.R_below (by (with_reducible repeat (first | apply Kd.R_alloc | apply Kd.R_drewN | apply Kd.R_drew)); exact HO_35.out) hb); have n1_ := Aside0.mk (Kd.R_below (by (with_reducible repeat (first | apply Kd.R_alloc | apply Kd.R_drewN | apply Kd.R_drew)); exact HO_246.out) hb); have n2_ := Aside0.mk (below_step (by repeat (first | (with_reducible first | exact HB.out | apply below_alloc | apply pw_below_drewN | apply below_drew1) | exact HB.out)) hb); clear HO_35; clear HO_246; clear HB; have HO_35 := n0_; have HO_246 := n1_; have HB := n2_; clear n0_ n1_ n2_; (try clear hb); (try clear hb2); (try clear hk); (try clear hi)) | ((with_reducible refine gate_callee (f := 15) rfl ?_); refine goesL_ (some 265) rfl rfl Try.func15 (by kernel_rfl) rfl #[.int .i64 (rd t237 x248_8), .int .i64 t233, .bool t234] rfl (by (try simp only [List.map_toArray, List.map_cons, List.map_nil]); first | done | rfl | (simp only [List.length_drop, List.length_take]; rfl)) ?_; (with_reducible refine (impl_NullityByRows.calls (rd t237 x248_8) t233 t234 t249 t250 _ A92.out).mono ?_); rintro e w108 ⟨rfl, hb⟩; refine ⟨_, rfl, ?_⟩; have n0_ := Aside0.mk (Kd.R_below (by (with_reducible repeat (first | apply Kd.R_alloc | apply Kd.R_drewN | apply Kd.R_drew)); exact HO_35.out) hb); have n1_ := Aside0.mk (Kd.R_below (by (with_reducible repeat (first | apply Kd.R_alloc | apply Kd.R_drewN | apply Kd.R_drew)); exact HO_246.out) hb); have n2_ := Aside0.mk (below_step (by repeat (first | (with_reducible first | exact HB.out | apply below_alloc | apply pw_below_drewN | apply below_drew1) | exact HB.out)) hb); clear HO_35; clear HO_246; clear HB; have HO_35 := n0_; have HO_246 := n1_; have HB := n2_; clear n0_ n1_ n2_; (try clear hb); (try clear hb2); (try clear hk); (try clear hi)))
                           go_ret
                           exact ⟨by first | rfl | (simp [errW_none, errW_some] <;> rfl) | (simp [*, errW_none, errW_some] <;> rfl), by repeat (first | (with_reducible first | exact HB.out | apply below_alloc | apply pw_below_drewN | apply below_drew1) | exact HB.out)⟩
                        ·
                         replace c93 := Bool.eq_false_iff.mpr c93
                         subst c93
                         have H1 : (some false) = some r := by rw [if_neg (show ¬ (false = true) by decide)] at H; exact H
                         clear H
                         have H := H1
                         clear H1
                         first
                         | exact absurd (H.trans (congrArg some HR_.out)) (by decide)
                         |
                          obtain rfl := Option.some.inj H
                          have p246 : 0 ≤ (x248_8 : Int) := of_decide_eq_true (by first | (with_reducible assumption) | assumption)
                          have q246 : x248_8 < (t237.length : Int) := of_decide_eq_true (by first | (with_reducible assumption) | assumption)
                          obtain ⟨ad246, e246, hx246_0⟩ := Kd.at_int (Kd.R_reads' HO_246.out).2.2 x248_8 p246 q246
                          cases e246
                          replace p246 := eq_true p246
                          replace q246 := eq_true q246
                          go_wp2_with (first | ((with_reducible refine gate_callee (f := 37) rfl ?_); refine goesL_ (some 258) rfl rfl Try.func37 (by kernel_rfl) rfl #[.int .i64 t233, .bool t234, .int .i64 t235, .int .i64 (rd t237 x248_8)] rfl (by (try simp only [List.map_toArray, List.map_cons, List.map_nil]); first | done | rfl | (simp only [List.length_drop, List.length_take]; rfl)) ?_; (with_reducible refine (impl_RowBehind.calls t233 t234 t235 (rd t237 x248_8) t247 false _ A91.out).mono ?_); rintro e w109 ⟨rfl, hb⟩; refine ⟨_, rfl, ?_⟩; have n0_ := Aside0.mk (Kd.R_below (by (with_reducible repeat (first | apply Kd.R_alloc | apply Kd.R_drewN | apply Kd.R_drew)); exact HO_35.out) hb); have n1_ := Aside0.mk (Kd.R_below (by (with_reducible repeat (first | apply Kd.R_alloc | apply Kd.R_drewN | apply Kd.R_drew)); exact HO_246.out) hb); have n2_ := Aside0.mk (below_step (by repeat (first | (with_reducible first | exact HB.out | apply below_alloc | apply pw_below_drewN | apply below_drew1) | exact HB.out)) hb); clear HO_35; clear HO_246; clear HB; have HO_35 := n0_; have HO_246 := n1_; have HB := n2_; clear n0_ n1_ n2_; (try clear hb); (try clear hb2); (try clear hk); (try clear hi)) | ((with_reducible refine gate_callee (f := 15) rfl ?_); refine goesL_ (some 265) rfl rfl Try.func15 (by kernel_rfl) rfl #[.int .i64 (rd t237 x248_8), .int .i64 t233, .bool t234] rfl (by (try simp only [List.map_toArray, List.map_cons, List.map_nil]); first | done | rfl | (simp only [List.length_drop, List.length_take]; rfl)) ?_; (with_reducible refine (impl_NullityByRows.calls (rd t237 x248_8) t233 t234 t249 t250 _ A92.out).mono ?_); rintro e w110 ⟨rfl, hb⟩; refine ⟨_, rfl, ?_⟩; have n0_ := Aside0.mk (Kd.R_below (by (with_reducible repeat (first | apply Kd.R_alloc | apply Kd.R_drewN | apply Kd.R_drew)); exact HO_35.out) hb); have n1_ := Aside0.mk (Kd.R_below (by (with_reducible repeat (first | apply Kd.R_alloc | apply Kd.R_drewN | apply Kd.R_drew)); exact HO_246.out) hb); have n2_ := Aside0.mk (below_step (by repeat (first | (with_reducible first | exact HB.out | apply below_alloc | apply pw_below_drewN | apply below_drew1) | exact HB.out)) hb); clear HO_35; clear HO_246; clear HB; have HO_35 := n0_; have HO_246 := n1_; have HB := n2_; clear n0_ n1_ n2_; (try clear hb); (try clear hb2); (try clear hk); (try clear hi)))
                          go_ret
                          exact ⟨by first | rfl | (simp [errW_none, errW_some] <;> rfl) | (simp [*, errW_none, errW_some] <;> rfl), by repeat (first | (with_reducible first | exact HB.out | apply below_alloc | apply pw_below_drewN | apply below_drew1) | exact HB.out)⟩
                       ·
                        rw [if_neg c90] at H
                        exact absurd H (by simp)
                      ·
                       rw [if_neg c89] at H
                       exact absurd H (by simp)
                     ·
                      rw [if_neg c88] at H
                      have c88b0 : decide (x248_8 < (t237.length : Int)) = false := decide_eq_false c88
                      clear c88
                      replace H := Option.bind_eq_some_iff.mp H
                      obtain ⟨⟨t252, t253, t254, t255⟩, A1110, H⟩ := H
                      replace H : ((impl_RowBehind.f t252 t253 t254 t255).bind fun bt256 => ((spec_RowBehind.f k8 t252 t253 t254 t255).bind fun bt258 => ((spec_DrawNullitiesByRows.f l0).bind fun bt260 => ((impl_NullitiesByRows.f k8 bt260.1 bt260.2.1 bt260.2.2).bind fun bt263 => ((spec_NullitiesByRows.f k8 bt260.1 bt260.2.1 bt260.2.2).bind fun bt267 => (if (bt256.2 != bt258.2) = true then (laws_FnRowsTellNullities.j8 k8 bt260.1 bt260.2.1 bt263.1 true) else (if bt256.1 = bt258.1 then (if (bt263.2 != bt267.2) = true then (laws_FnRowsTellNullities.j8 k8 bt260.1 bt260.2.1 bt263.1 true) else ((laws_hSame.f k8 bt263.1 bt267.1).bind fun t271 => (laws_FnRowsTellNullities.j8 k8 bt260.1 bt260.2.1 bt263.1 (!t271)))) else (laws_FnRowsTellNullities.j8 k8 bt260.1 bt260.2.1 bt263.1 true)))))))) = some r := H
                      have A111 := Aside0.mk A1110
                      clear A1110
                      replace H := Option.bind_eq_some_iff.mp H
                      obtain ⟨⟨t256, t257⟩, A1120, H⟩ := H
                      replace H : ((spec_RowBehind.f k8 t252 t253 t254 t255).bind fun bt258 => ((spec_DrawNullitiesByRows.f l0).bind fun bt260 => ((impl_NullitiesByRows.f k8 bt260.1 bt260.2.1 bt260.2.2).bind fun bt263 => ((spec_NullitiesByRows.f k8 bt260.1 bt260.2.1 bt260.2.2).bind fun bt267 => (if (t257 != bt258.2) = true then (laws_FnRowsTellNullities.j8 k8 bt260.1 bt260.2.1 bt263.1 true) else (if t256 = bt258.1 then (if (bt263.2 != bt267.2) = true then (laws_FnRowsTellNullities.j8 k8 bt260.1 bt260.2.1 bt263.1 true) else ((laws_hSame.f k8 bt263.1 bt267.1).bind fun t271 => (laws_FnRowsTellNullities.j8 k8 bt260.1 bt260.2.1 bt263.1 (!t271)))) else (laws_FnRowsTellNullities.j8 k8 bt260.1 bt260.2.1 bt263.1 true))))))) = some r := H
                      have A112 := Aside0.mk A1120
                      clear A1120
                      replace H := Option.bind_eq_some_iff.mp H
                      obtain ⟨⟨t258, t259⟩, A1130, H⟩ := H
                      replace H : ((spec_DrawNullitiesByRows.f l0).bind fun bt260 => ((impl_NullitiesByRows.f k8 bt260.1 bt260.2.1 bt260.2.2).bind fun bt263 => ((spec_NullitiesByRows.f k8 bt260.1 bt260.2.1 bt260.2.2).bind fun bt267 => (if (t257 != t259) = true then (laws_FnRowsTellNullities.j8 k8 bt260.1 bt260.2.1 bt263.1 true) else (if t256 = t258 then (if (bt263.2 != bt267.2) = true then (laws_FnRowsTellNullities.j8 k8 bt260.1 bt260.2.1 bt263.1 true) else ((laws_hSame.f k8 bt263.1 bt267.1).bind fun t271 => (laws_FnRowsTellNullities.j8 k8 bt260.1 bt260.2.1 bt263.1 (!t271)))) else (laws_FnRowsTellNullities.j8 k8 bt260.1 bt260.2.1 bt263.1 true)))))) = some r := H
                      have A113 := Aside0.mk A1130
                      clear A1130
                      replace H := Option.bind_eq_some_iff.mp H
                      obtain ⟨⟨t260, t261, t262⟩, A1140, H⟩ := H
                      replace H : ((impl_NullitiesByRows.f k8 t260 t261 t262).bind fun bt263 => ((spec_NullitiesByRows.f k8 t260 t261 t262).bind fun bt267 => (if (t257 != t259) = true then (laws_FnRowsTellNullities.j8 k8 t260 t261 bt263.1 true) else (if t256 = t258 then (if (bt263.2 != bt267.2) = true then (laws_FnRowsTellNullities.j8 k8 t260 t261 bt263.1 true) else ((laws_hSame.f k8 bt263.1 bt267.1).bind fun t271 => (laws_FnRowsTellNullities.j8 k8 t260 t261 bt263.1 (!t271)))) else (laws_FnRowsTellNullities.j8 k8 t260 t261 bt263.1 true))))) = some r := H
                      have A114 := Aside0.mk A1140
                      clear A1140
                      replace H := Option.bind_eq_some_iff.mp H
                      obtain ⟨⟨t263, t264⟩, A1150, H⟩ := H
                      replace H : ((spec_NullitiesByRows.f k8 t260 t261 t262).bind fun bt267 => (if (t257 != t259) = true then (laws_FnRowsTellNullities.j8 k8 t260 t261 t263 true) else (if t256 = t258 then (if (t264 != bt267.2) = true then (laws_FnRowsTellNullities.j8 k8 t260 t261 t263 true) else ((laws_hSame.f k8 t263 bt267.1).bind fun t271 => (laws_FnRowsTellNullities.j8 k8 t260 t261 t263 (!t271)))) else (laws_FnRowsTellNullities.j8 k8 t260 t261 t263 true)))) = some r := H
                      have A115 := Aside0.mk A1150
                      clear A1150
                      replace H := Option.bind_eq_some_iff.mp H
                      obtain ⟨⟨t267, t268⟩, A1160, H⟩ := H
                      replace H : (if (t257 != t259) = true then (laws_FnRowsTellNullities.j8 k8 t260 t261 t263 true) else (if t256 = t258 then (if (t264 != t268) = true then (laws_FnRowsTellNullities.j8 k8 t260 t261 t263 true) else ((laws_hSame.f k8 t263 t267).bind fun t271 => (laws_FnRowsTellNullities.j8 k8 t260 t261 t263 (!t271)))) else (laws_FnRowsTellNullities.j8 k8 t260 t261 t263 true))) = some r := H
                      have A116 := Aside0.mk A1160
                      clear A1160
                      have HC117 := Aside0.mk H
                      clear H
                      go_upto_region 44 with (first | ((with_reducible refine gate_callee (f := 41) rfl ?_); refine goesL_ (some 297) rfl rfl Try.func41 (by kernel_rfl) rfl #[.slice A0 l0.length c0] rfl (by (try simp only [List.map_toArray, List.map_cons, List.map_nil]); first | done | rfl | (simp only [List.length_drop, List.length_take]; rfl)) ?_; (with_reducible refine (spec_DrawRowBehind.calls _ _ l0 t252 t253 t254 t255 _ ?side1 ?side2 A111.out).mono ?_); (case side1 => repeat (first | exact (Kd.C_below HR0.out HB.out) | (with_reducible refine Kd.C_alloc ?_ _) | (with_reducible refine Kd.C_drewN ?_ _) | (with_reducible refine Kd.C_drew ?_))); (case side2 => exact HC0.out); rintro e w118 ⟨rfl, hb⟩; refine ⟨_, rfl, ?_⟩; have n0_ := Aside0.mk (Kd.R_below (by (with_reducible repeat (first | apply Kd.R_alloc | apply Kd.R_drewN | apply Kd.R_drew)); exact HO_35.out) hb); have n1_ := Aside0.mk (Kd.R_below (by (with_reducible repeat (first | apply Kd.R_alloc | apply Kd.R_drewN | apply Kd.R_drew)); exact HO_246.out) hb); have n2_ := Aside0.mk (below_step (by repeat (first | (with_reducible first | exact HB.out | apply below_alloc | apply pw_below_drewN | apply below_drew1) | exact HB.out)) hb); clear HO_35; clear HO_246; clear HB; have HO_35 := n0_; have HO_246 := n1_; have HB := n2_; clear n0_ n1_ n2_; (try clear hb); (try clear hb2); (try clear hk); (try clear hi)) | ((with_reducible refine gate_callee (f := 37) rfl ?_); refine goesL_ (some 307) rfl rfl Try.func37 (by kernel_rfl) rfl #[.int .i64 t252, .bool t253, .int .i64 t254, .int .i64 t255] rfl (by (try simp only [List.map_toArray, List.map_cons, List.map_nil]); first | done | rfl | (simp only [List.length_drop, List.length_take]; rfl)) ?_; (with_reducible refine (impl_RowBehind.calls t252 t253 t254 t255 t256 t257 _ A112.out).mono ?_); rintro e w119 ⟨rfl, hb⟩; refine ⟨_, rfl, ?_⟩; have n0_ := Aside0.mk (Kd.R_below (by (with_reducible repeat (first | apply Kd.R_alloc | apply Kd.R_drewN | apply Kd.R_drew)); exact HO_35.out) hb); have n1_ := Aside0.mk (Kd.R_below (by (with_reducible repeat (first | apply Kd.R_alloc | apply Kd.R_drewN | apply Kd.R_drew)); exact HO_246.out) hb); have n2_ := Aside0.mk (below_step (by repeat (first | (with_reducible first | exact HB.out | apply below_alloc | apply pw_below_drewN | apply below_drew1) | exact HB.out)) hb); clear HO_35; clear HO_246; clear HB; have HO_35 := n0_; have HO_246 := n1_; have HB := n2_; clear n0_ n1_ n2_; (try clear hb); (try clear hb2); (try clear hk); (try clear hi)) | ((with_reducible refine gate_callee (f := 42) rfl ?_); refine goesL_ (some 315) rfl rfl Try.func42 (by kernel_rfl) rfl #[.int .i64 t252, .bool t253, .int .i64 t254, .int .i64 t255] rfl (by (try simp only [List.map_toArray, List.map_cons, List.map_nil]); first | done | rfl | (simp only [List.length_drop, List.length_take]; rfl)) ?_; (with_reducible refine (spec_RowBehind.calls k8 t252 t253 t254 t255 t258 t259 _ A113.out).mono ?_); rintro e w' ⟨rfl, ⟨nd, rfl⟩⟩; refine ⟨_, rfl, ?_⟩) | ((with_reducible refine gate_callee (f := 43) rfl ?_); refine goesL_ (some 320) rfl rfl Try.func43 (by kernel_rfl) rfl #[.slice A0 l0.length c0] rfl (by (try simp only [List.map_toArray, List.map_cons, List.map_nil]); first | done | rfl | (simp only [List.length_drop, List.length_take]; rfl)) ?_; (with_reducible refine (spec_DrawNullitiesByRows.calls _ _ l0 t260 t261 t262 _ ?side1 ?side2 A114.out).mono ?_); (case side1 => repeat (first | exact (Kd.C_below HR0.out (by repeat (first | (with_reducible first | exact HB.out | apply below_alloc | apply pw_below_drewN | apply below_drew1) | exact HB.out))) | (with_reducible refine Kd.C_alloc ?_ _) | (with_reducible refine Kd.C_drewN ?_ _) | (with_reducible refine Kd.C_drew ?_))); (case side2 => exact HC0.out); rintro e w120 ⟨rfl, hb⟩; refine ⟨_, rfl, ?_⟩; have n0_ := Aside0.mk (Kd.R_below (by (with_reducible repeat (first | apply Kd.R_alloc | apply Kd.R_drewN | apply Kd.R_drew)); exact HO_35.out) hb); have n1_ := Aside0.mk (Kd.R_below (by (with_reducible repeat (first | apply Kd.R_alloc | apply Kd.R_drewN | apply Kd.R_drew)); exact HO_246.out) hb); have n2_ := Aside0.mk (below_step (by repeat (first | (with_reducible first | exact HB.out | apply below_alloc | apply pw_below_drewN | apply below_drew1) | exact HB.out)) hb); clear HO_35; clear HO_246; clear HB; have HO_35 := n0_; have HO_246 := n1_; have HB := n2_; clear n0_ n1_ n2_; (try clear hb); (try clear hb2); (try clear hk); (try clear hi)) | ((with_reducible refine gate_callee (f := 44) rfl ?_); refine goesL_ (some 328) rfl rfl Try.func44 (by kernel_rfl) rfl #[.int .i64 t260, .bool t261, .int .i64 t262] rfl (by (try simp only [List.map_toArray, List.map_cons, List.map_nil]); first | done | rfl | (simp only [List.length_drop, List.length_take]; rfl)) ?_; (with_reducible refine (impl_NullitiesByRows.calls k8 t260 t261 t262 t263 t264 _ A115.out).mono ?_); rintro e w121 ⟨v265, rfl, ho0, hb⟩; refine ⟨_, rfl, ?_⟩; have n0_ := Aside0.mk (Kd.R_elder' (by (with_reducible repeat (first | apply Kd.R_alloc | apply Kd.R_drewN | apply Kd.R_drew)); exact HO_35.out) (Kd.R_base ho0) hb); have n1_ := Aside0.mk (Kd.R_elder' (by (with_reducible repeat (first | apply Kd.R_alloc | apply Kd.R_drewN | apply Kd.R_drew)); exact HO_246.out) (Kd.R_base ho0) hb); have n2_ := Aside0.mk (Kd.R_lower (Kd.R_new' (Kd.R_new' ho0 (Kd.R_lt (by (with_reducible repeat (first | apply Kd.R_alloc | apply Kd.R_drewN | apply Kd.R_drew)); exact HO_35.out))) (Kd.R_lt (by (with_reducible repeat (first | apply Kd.R_alloc | apply Kd.R_drewN | apply Kd.R_drew)); exact HO_246.out))) (below_size (by repeat (first | (with_reducible first | exact HB.out | apply below_alloc | apply pw_below_drewN | apply below_drew1) | exact HB.out)))); have n3_ := Aside0.mk (below_step (by repeat (first | (with_reducible first | exact HB.out | apply below_alloc | apply pw_below_drewN | apply below_drew1) | exact HB.out)) hb); clear HO_35; clear HO_246; clear HB; have HO_35 := n0_; have HO_246 := n1_; have HO266 := n2_; have HB := n3_; clear n0_ n1_ n2_ n3_; (try clear hb); (try clear hb2); (try clear hk); (try clear hi); (try clear ho0)) | ((with_reducible refine gate_callee (f := 45) rfl ?_); refine goesL_ (some 335) rfl rfl Try.func45 (by kernel_rfl) rfl #[.int .i64 t260, .bool t261, .int .i64 t262] rfl (by (try simp only [List.map_toArray, List.map_cons, List.map_nil]); first | done | rfl | (simp only [List.length_drop, List.length_take]; rfl)) ?_; (with_reducible refine (spec_NullitiesByRows.calls k8 t260 t261 t262 t267 t268 _ A116.out).mono ?_); rintro e w122 ⟨v269, rfl, ho0, hb⟩; refine ⟨_, rfl, ?_⟩; have n0_ := Aside0.mk (Kd.R_elder' (by (with_reducible repeat (first | apply Kd.R_alloc | apply Kd.R_drewN | apply Kd.R_drew)); exact HO_35.out) (Kd.R_base ho0) hb); have n1_ := Aside0.mk (Kd.R_elder' (by (with_reducible repeat (first | apply Kd.R_alloc | apply Kd.R_drewN | apply Kd.R_drew)); exact HO_246.out) (Kd.R_base ho0) hb); have n2_ := Aside0.mk (Kd.R_elder' (by (with_reducible repeat (first | apply Kd.R_alloc | apply Kd.R_drewN | apply Kd.R_drew)); exact HO266.out) (Kd.R_base ho0) hb); have n3_ := Aside0.mk (Kd.R_lower (Kd.R_new' (Kd.R_new' (Kd.R_new' ho0 (Kd.R_lt (by (with_reducible repeat (first | apply Kd.R_alloc | apply Kd.R_drewN | apply Kd.R_drew)); exact HO_35.out))) (Kd.R_lt (by (with_reducible repeat (first | apply Kd.R_alloc | apply Kd.R_drewN | apply Kd.R_drew)); exact HO_246.out))) (Kd.R_lt (by (with_reducible repeat (first | apply Kd.R_alloc | apply Kd.R_drewN | apply Kd.R_drew)); exact HO266.out))) (below_size (by repeat (first | (with_reducible first | exact HB.out | apply below_alloc | apply pw_below_drewN | apply below_drew1) | exact HB.out)))); have n4_ := Aside0.mk (below_step (by repeat (first | (with_reducible first | exact HB.out | apply below_alloc | apply pw_below_drewN | apply below_drew1) | exact HB.out)) hb); clear HO_35; clear HO_246; clear HO266; clear HB; have HO_35 := n0_; have HO_246 := n1_; have HO266 := n2_; have HO270 := n3_; have HB := n4_; clear n0_ n1_ n2_ n3_ n4_; (try clear hb); (try clear hb2); (try clear hk); (try clear hi); (try clear ho0)))
                      (try simp only [Act.put, List.setIfInBounds_toArray, List.set_cons_zero, List.set_cons_succ])
                      go_cut [356] (fun v356 wc => ∃ (kq : Nat) (x356_116 : Bool), v356 = .bool x356_116 ∧ Aside0 (laws_FnRowsTellNullities.j8 kq t260 t261 t263 x356_116 = some r) ∧ Aside0 (kq ≤ k8) ∧ Aside0 (Kd.R (Kd.int .i64) 3 wc w.heap.size (fun _ => True) v265 t263) ∧ Aside0 (Below w.heap.size w wc))
                      case first => as_aux_lemma =>
                       have H := HC117.out
                       clear HC117
                       by_cases c123 : (t257 != t259) = true
                       ·
                        rw [if_pos c123] at H
                        have c123b0 : (t257 != t259) = true := c123
                        (try (have c123b1 : decide (t257 = t259) = false := by simpa using c123))
                        (try (have c123b2 : (t257 == t259) = false := by simpa using c123))
                        (try (have c123b3 : ¬ (t257 = t259) := by simpa using c123))
                        clear c123
                        (first | rw [c123b0] | (simp only [i64_w, i32_w]; rw [c123b0]) | skip)
                        first
                        | exact absurd (H.trans (congrArg some HR_.out)) (by cases k8 <;> simp [laws_FnRowsTellNullities.j8])
                        |
                         have H' := Aside0.mk H
                         clear H
                         go_wp2
                         go_meet
                         case rel => exact ⟨_, (true), (by first | rfl | (simp; done) | (simp [*]; done)), H', ⟨by have := HJ7.out; have := HJ12.out; have := HJ14.out; have := HJ46.out; have := HJ54.out; have := HJ56.out; have := HJ77.out; have := HK8.out; first | omega | exact Nat.le_refl _⟩, ⟨by (with_reducible repeat (first | apply Kd.R_alloc | apply Kd.R_drewN | apply Kd.R_drew)); exact Kd.R_mono HO266.out (fun _ hk => trivial)⟩, ⟨by repeat (first | (with_reducible first | exact HB.out | apply below_alloc | apply pw_below_drewN | apply below_drew1) | exact HB.out)⟩⟩
                       ·
                        rw [if_neg c123] at H
                        have c123b0 : (t257 != t259) = false := by simpa using c123
                        (try (have c123b1 : decide (t257 = t259) = true := by simpa using c123))
                        (try (have c123b2 : (t257 == t259) = true := by simpa using c123))
                        clear c123
                        (first | rw [c123b0] | (simp only [i64_w, i32_w]; rw [c123b0]) | skip)
                        by_cases c124 : t256 = t258
                        ·
                         rw [if_pos c124] at H
                         have c124b0 : (t256 == t258) = true := beq_iff_eq.mpr c124
                         have c124b1 : (t256 != t258) = false := bne_eq_false_iff_eq.mpr c124
                         clear c124
                         by_cases c125 : (t264 != t268) = true
                         ·
                          rw [if_pos c125] at H
                          have c125b0 : (t264 != t268) = true := c125
                          (try (have c125b1 : decide (t264 = t268) = false := by simpa using c125))
                          (try (have c125b2 : (t264 == t268) = false := by simpa using c125))
                          (try (have c125b3 : ¬ (t264 = t268) := by simpa using c125))
                          clear c125
                          first
                          | exact absurd (H.trans (congrArg some HR_.out)) (by cases k8 <;> simp [laws_FnRowsTellNullities.j8])
                          |
                           have H' := Aside0.mk H
                           clear H
                           go_wp2
                           go_meet
                           case rel => exact ⟨_, (true), (by first | rfl | (simp; done) | (simp [*]; done)), H', ⟨by have := HJ7.out; have := HJ12.out; have := HJ14.out; have := HJ46.out; have := HJ54.out; have := HJ56.out; have := HJ77.out; have := HK8.out; first | omega | exact Nat.le_refl _⟩, ⟨by (with_reducible repeat (first | apply Kd.R_alloc | apply Kd.R_drewN | apply Kd.R_drew)); exact Kd.R_mono HO266.out (fun _ hk => trivial)⟩, ⟨by repeat (first | (with_reducible first | exact HB.out | apply below_alloc | apply pw_below_drewN | apply below_drew1) | exact HB.out)⟩⟩
                         ·
                          rw [if_neg c125] at H
                          have c125b0 : (t264 != t268) = false := by simpa using c125
                          (try (have c125b1 : decide (t264 = t268) = true := by simpa using c125))
                          (try (have c125b2 : (t264 == t268) = true := by simpa using c125))
                          clear c125
                          replace H := Option.bind_eq_some_iff.mp H
                          obtain ⟨t271, A1260, H⟩ := H
                          replace H : (laws_FnRowsTellNullities.j8 k8 t260 t261 t263 (!t271)) = some r := H
                          have A126 := Aside0.mk A1260
                          clear A1260
                          have H' := Aside0.mk H
                          clear H
                          obtain ⟨Ao127, co127, eo127⟩ := Kd.R_slice HO266.out
                          subst eo127
                          obtain ⟨Ao128, co128, eo128⟩ := Kd.R_slice HO270.out
                          subst eo128
                          go_wp2_with (first | (go_at_call 10; (with_reducible refine (laws_hSame.calls k8 _ _ t263 _ _ t267 t271 _ ?side1 ?side2 ?side3 ?side4 A126.out).mono ?_); (case side1 => repeat (first | exact (Kd.R_reads' HO266.out).2.2 | (with_reducible refine Kd.C_alloc ?_ _) | (with_reducible refine Kd.C_drewN ?_ _) | (with_reducible refine Kd.C_drew ?_))); (case side2 => exact (Kd.R_reads' HO266.out).2.1); (case side3 => repeat (first | exact (Kd.R_reads' HO270.out).2.2 | (with_reducible refine Kd.C_alloc ?_ _) | (with_reducible refine Kd.C_drewN ?_ _) | (with_reducible refine Kd.C_drew ?_))); (case side4 => exact (Kd.R_reads' HO270.out).2.1); rintro e w' ⟨rfl, ⟨nd, rfl⟩⟩))
                          go_meet
                          case rel => exact ⟨_, (!t271), (by first | rfl | (simp; done) | (simp [*]; done)), H', ⟨by have := HJ7.out; have := HJ12.out; have := HJ14.out; have := HJ46.out; have := HJ54.out; have := HJ56.out; have := HJ77.out; have := HK8.out; first | omega | exact Nat.le_refl _⟩, ⟨by (with_reducible repeat (first | apply Kd.R_alloc | apply Kd.R_drewN | apply Kd.R_drew)); exact Kd.R_mono HO266.out (fun _ hk => trivial)⟩, ⟨by repeat (first | (with_reducible first | exact HB.out | apply below_alloc | apply pw_below_drewN | apply below_drew1) | exact HB.out)⟩⟩
                        ·
                         rw [if_neg c124] at H
                         have c124b0 : (t256 == t258) = false := beq_eq_false_iff_ne.mpr c124
                         have c124b1 : (t256 != t258) = true := bne_iff_ne.mpr c124
                         first
                         | exact absurd (H.trans (congrArg some HR_.out)) (by cases k8 <;> simp [laws_FnRowsTellNullities.j8])
                         |
                          have H' := Aside0.mk H
                          clear H
                          go_wp2
                          go_meet
                          case rel => exact ⟨_, (true), (by first | rfl | (simp; done) | (simp [*]; done)), H', ⟨by have := HJ7.out; have := HJ12.out; have := HJ14.out; have := HJ46.out; have := HJ54.out; have := HJ56.out; have := HJ77.out; have := HK8.out; first | omega | exact Nat.le_refl _⟩, ⟨by (with_reducible repeat (first | apply Kd.R_alloc | apply Kd.R_drewN | apply Kd.R_drew)); exact Kd.R_mono HO266.out (fun _ hk => trivial)⟩, ⟨by repeat (first | (with_reducible first | exact HB.out | apply below_alloc | apply pw_below_drewN | apply below_drew1) | exact HB.out)⟩⟩
                      case rest => as_aux_lemma =>
                       clear HC117
                       try clear c1
                       try clear c2
                       try clear p2
                       try clear q2
                       try clear hx2
                       try clear qi2
                       try clear c3
                       try clear c4
                       try clear c5
                       try clear c6
                       try clear p6
                       try clear c8
                       try clear c9
                       try clear c10
                       try clear c11
                       try clear c11b0
                       try clear c11b1
                       try clear c11b2
                       try clear c12
                       try clear c14
                       try clear c15
                       try clear c16
                       try clear c19
                       try clear c20
                       try clear c21
                       try clear c21b0
                       try clear c21b1
                       try clear p24
                       try clear q24
                       try clear hx24
                       try clear p25
                       try clear q25
                       try clear hx25
                       try clear qi25
                       try clear c29
                       try clear c30
                       try clear c31
                       try clear c32
                       try clear c33
                       try clear c34
                       try clear c35
                       try clear c36
                       try clear c37
                       try clear c38
                       try clear c39
                       try clear c40
                       try clear c41
                       try clear c42
                       try clear c43
                       try clear c44
                       try clear c45
                       try clear c51
                       try clear c51b0
                       try clear c51b1
                       try clear c51b2
                       try clear c52
                       try clear c52b0
                       try clear c52b1
                       try clear c53
                       try clear c53b0
                       try clear c53b1
                       try clear c53b2
                       try clear c54
                       try clear c56
                       try clear c58
                       try clear c61
                       try clear c62
                       try clear c62b0
                       try clear c62b1
                       try clear c63
                       try clear c64
                       try clear c64b0
                       try clear c64b1
                       try clear p64
                       try clear c82
                       try clear c82b0
                       try clear c82b1
                       try clear c82b2
                       try clear c86
                       try clear c88
                       try clear c88b0
                       try clear c89
                       try clear c89b0
                       try clear c90
                       try clear c90b0
                       try clear c93
                       try clear c94
                       try clear c94b0
                       try clear c94b1
                       try clear c95
                       try clear c96
                       try clear c96b0
                       try clear c99
                       try clear c99b0
                       try clear c99b1
                       try clear c100
                       try clear c100b0
                       try clear c100b1
                       try clear c123
                       try clear c123b0
                       try clear c123b1
                       try clear c123b2
                       try clear c124
                       try clear c124b0
                       try clear c124b1
                       try clear c125
                       try clear c125b0
                       try clear c125b1
                       try clear c125b2
                       try clear hcz25_0
                       try clear hcz25_1
                       try clear hcz30_0
                       try clear hcz30_1
                       try clear hcz35_0
                       try clear hcz35_1
                       try clear hcz40_0
                       try clear hcz40_1
                       try clear hfz25_0
                       try clear hfz25_1
                       try clear hfz30_0
                       try clear hfz30_1
                       try clear hfz35_0
                       try clear hfz35_1
                       try clear hfz40_0
                       try clear hfz40_1
                       try clear hx246_0
                       try clear hx251_0
                       try clear p2
                       try clear p246
                       try clear p251
                       try clear p6
                       try clear p64
                       try clear q246
                       try clear q251
                       obtain ⟨kq, x356_116, rfl, HA, HJ116, HO_56, HB⟩ := hcut
                       cases kq with
                       | zero => exact absurd HA.out (by simp [laws_FnRowsTellNullities.j8])
                       | succ kj116 =>
                        have H := HA.out
                        clear HA
                        simp only [laws_FnRowsTellNullities.j8] at H
                        by_cases c129 : x356_116 = true
                        ·
                         subst c129
                         have H1 : (some false) = some r := by rw [if_pos rfl] at H; exact H
                         clear H
                         have H := H1
                         clear H1
                         first
                         | exact absurd (H.trans (congrArg some HR_.out)) (by decide)
                         |
                          obtain rfl := Option.some.inj H
                          go_wp2
                          go_ret
                          exact ⟨by first | rfl | (simp [errW_none, errW_some] <;> rfl) | (simp [*, errW_none, errW_some] <;> rfl), by repeat (first | (with_reducible first | exact HB.out | apply below_alloc | apply pw_below_drewN | apply below_drew1) | exact HB.out)⟩
                        ·
                         replace c129 := Bool.eq_false_iff.mpr c129
                         subst c129
                         have H1 : (laws_FnRowsTellNullities.l1 kj116 t260 t261 t263 (t263.length : Int) 0) = some r := by rw [if_neg (show ¬ (false = true) by decide)] at H; exact H
                         clear H
                         have H := H1
                         clear H1
                         have H' := Aside0.mk H
                         clear H
                         obtain ⟨Ao130, co130, eo130⟩ := Kd.R_slice HO_56.out
                         subst eo130
                         go_wp2
                         go_loopg [359] kj116 (fun kq v359 w' => ∃ (x359_10 : Int), v359 = .int .i64 x359_10 ∧ Aside0 (laws_FnRowsTellNullities.l1 kq t260 t261 t263 (t263.length : Int) x359_10 = some r) ∧ Aside0 (kq ≤ kj116) ∧ Aside0 (Kd.R (Kd.int .i64) 3 w' w.heap.size (fun _ => True) (.slice Ao130 t263.length co130) t263) ∧ Aside0 (Below w.heap.size w w'))
                         case atStart => exact ⟨(0), (by first | rfl | (simp; done) | (simp [*]; done)), H', ⟨Nat.le_refl _⟩, ⟨by (with_reducible repeat (first | apply Kd.R_alloc | apply Kd.R_drewN | apply Kd.R_drew)); exact HO_56.out⟩, ⟨by repeat (first | (with_reducible first | exact HB.out | apply below_alloc | apply pw_below_drewN | apply below_drew1) | exact HB.out)⟩⟩
                         case round => as_aux_lemma =>
                          clear H'
                          try clear c1
                          try clear c2
                          try clear p2
                          try clear q2
                          try clear hx2
                          try clear qi2
                          try clear c3
                          try clear c4
                          try clear c5
                          try clear c6
                          try clear p6
                          try clear c8
                          try clear c9
                          try clear c10
                          try clear c11
                          try clear c11b0
                          try clear c11b1
                          try clear c11b2
                          try clear c12
                          try clear c14
                          try clear c15
                          try clear c16
                          try clear c19
                          try clear c20
                          try clear c21
                          try clear c21b0
                          try clear c21b1
                          try clear p24
                          try clear q24
                          try clear hx24
                          try clear p25
                          try clear q25
                          try clear hx25
                          try clear qi25
                          try clear c29
                          try clear c30
                          try clear c31
                          try clear c32
                          try clear c33
                          try clear c34
                          try clear c35
                          try clear c36
                          try clear c37
                          try clear c38
                          try clear c39
                          try clear c40
                          try clear c41
                          try clear c42
                          try clear c43
                          try clear c44
                          try clear c45
                          try clear c51
                          try clear c51b0
                          try clear c51b1
                          try clear c51b2
                          try clear c52
                          try clear c52b0
                          try clear c52b1
                          try clear c53
                          try clear c53b0
                          try clear c53b1
                          try clear c53b2
                          try clear c54
                          try clear c56
                          try clear c58
                          try clear c61
                          try clear c62
                          try clear c62b0
                          try clear c62b1
                          try clear c63
                          try clear c64
                          try clear c64b0
                          try clear c64b1
                          try clear p64
                          try clear c82
                          try clear c82b0
                          try clear c82b1
                          try clear c82b2
                          try clear c86
                          try clear c88
                          try clear c88b0
                          try clear c89
                          try clear c89b0
                          try clear c90
                          try clear c90b0
                          try clear c93
                          try clear c94
                          try clear c94b0
                          try clear c94b1
                          try clear c95
                          try clear c96
                          try clear c96b0
                          try clear c99
                          try clear c99b0
                          try clear c99b1
                          try clear c100
                          try clear c100b0
                          try clear c100b1
                          try clear c123
                          try clear c123b0
                          try clear c123b1
                          try clear c123b2
                          try clear c124
                          try clear c124b0
                          try clear c124b1
                          try clear c125
                          try clear c125b0
                          try clear c125b1
                          try clear c125b2
                          try clear c129
                          try clear hcz25_0
                          try clear hcz25_1
                          try clear hcz30_0
                          try clear hcz30_1
                          try clear hcz35_0
                          try clear hcz35_1
                          try clear hcz40_0
                          try clear hcz40_1
                          try clear hfz25_0
                          try clear hfz25_1
                          try clear hfz30_0
                          try clear hfz30_1
                          try clear hfz35_0
                          try clear hfz35_1
                          try clear hfz40_0
                          try clear hfz40_1
                          try clear hx246_0
                          try clear hx251_0
                          try clear p2
                          try clear p24
                          try clear p246
                          try clear p25
                          try clear p251
                          try clear p6
                          try clear p64
                          try clear q2
                          try clear q24
                          try clear q246
                          try clear q25
                          try clear q251
                          obtain ⟨x359_10, rfl, HA, HK10, HO_357, HB⟩ := hrel
                          cases gk with
                          | zero => exact absurd HA.out (by simp [laws_FnRowsTellNullities.l1])
                          | succ k10 =>
                           have H := HA.out
                           clear HA
                           simp only [laws_FnRowsTellNullities.l1] at H
                           by_cases c131 : x359_10 < (t263.length : Int)
                           ·
                            rw [if_pos c131] at H
                            have c131b0 : decide (x359_10 < (t263.length : Int)) = true := decide_eq_true c131
                            clear c131
                            by_cases c132 : 0 ≤ x359_10
                            ·
                             rw [if_pos c132] at H
                             have c132b0 : decide (0 ≤ x359_10) = true := decide_eq_true c132
                             clear c132
                             by_cases c133 : x359_10 < (t263.length : Int)
                             ·
                              rw [if_pos c133] at H
                              have c133b0 : decide (x359_10 < (t263.length : Int)) = true := decide_eq_true c133
                              clear c133
                              replace H := Option.bind_eq_some_iff.mp H
                              obtain ⟨⟨t273, t274⟩, A1340, H⟩ := H
                              replace H : (if t274 = true then (if t273 = (rd t263 x359_10) then (laws_FnRowsTellNullities.l1 k10 t260 t261 t263 (t263.length : Int) (wrap64 (x359_10 + 1))) else (some false)) else (some false)) = some r := H
                              have A134 := Aside0.mk A1340
                              clear A1340
                              by_cases c135 : t274 = true
                              ·
                               subst c135
                               have H1 : (if t273 = (rd t263 x359_10) then (laws_FnRowsTellNullities.l1 k10 t260 t261 t263 (t263.length : Int) (wrap64 (x359_10 + 1))) else (some false)) = some r := by rw [if_pos rfl] at H; exact H
                               clear H
                               have H := H1
                               clear H1
                               by_cases c136 : t273 = (rd t263 x359_10)
                               ·
                                rw [if_pos c136] at H
                                have c136b0 : (t273 == (rd t263 x359_10)) = true := beq_iff_eq.mpr c136
                                have c136b1 : (t273 != (rd t263 x359_10)) = false := bne_eq_false_iff_eq.mpr c136
                                clear c136
                                have H' := Aside0.mk H
                                clear H
                                have p272 : 0 ≤ (x359_10 : Int) := of_decide_eq_true (by first | (with_reducible assumption) | assumption)
                                have q272 : x359_10 < (t263.length : Int) := of_decide_eq_true (by first | (with_reducible assumption) | assumption)
                                obtain ⟨ad272, e272, hx272_0⟩ := Kd.at_int (Kd.R_reads' HO_357.out).2.2 x359_10 p272 q272
                                cases e272
                                replace p272 := eq_true p272
                                replace q272 := eq_true q272
                                go_wp2_with (first | ((with_reducible refine gate_callee (f := 15) rfl ?_); refine goesL_ (some 369) rfl rfl Try.func15 (by kernel_rfl) rfl #[.int .i64 (wrap64 (x359_10 + 1)), .int .i64 t260, .bool t261] rfl (by (try simp only [List.map_toArray, List.map_cons, List.map_nil]); first | done | rfl | (simp only [List.length_drop, List.length_take]; rfl)) ?_; (with_reducible refine (impl_NullityByRows.calls (wrap64 (x359_10 + 1)) t260 t261 t273 true _ A134.out).mono ?_); rintro e w137 ⟨rfl, hb⟩; refine ⟨_, rfl, ?_⟩; have n0_ := Aside0.mk (Kd.R_below (by (with_reducible repeat (first | apply Kd.R_alloc | apply Kd.R_drewN | apply Kd.R_drew)); exact HO_357.out) hb); have n1_ := Aside0.mk (below_step (by repeat (first | (with_reducible first | exact HB.out | apply below_alloc | apply pw_below_drewN | apply below_drew1) | exact HB.out)) hb); clear HO_357; clear HB; have HO_357 := n0_; have HB := n1_; clear n0_ n1_; (try clear hb); (try clear hb2); (try clear hk); (try clear hi)))
                                go_roundg k10
                                case measure => have := HJ7.out; have := HJ12.out; have := HJ14.out; have := HJ46.out; have := HJ54.out; have := HJ56.out; have := HJ77.out; have := HK8.out; have := HJ116.out; have := HK10.out; omega
                                case rel => exact ⟨(wrap64 (x359_10 + 1)), (by first | rfl | (simp; done) | (simp [*]; done)), H', ⟨by have := HJ7.out; have := HJ12.out; have := HJ14.out; have := HJ46.out; have := HJ54.out; have := HJ56.out; have := HJ77.out; have := HK8.out; have := HJ116.out; have := HK10.out; omega⟩, ⟨by (with_reducible repeat (first | apply Kd.R_alloc | apply Kd.R_drewN | apply Kd.R_drew)); exact HO_357.out⟩, ⟨by repeat (first | (with_reducible first | exact HB.out | apply below_alloc | apply pw_below_drewN | apply below_drew1) | exact HB.out)⟩⟩
                               ·
                                rw [if_neg c136] at H
                                have c136b0 : (t273 == (rd t263 x359_10)) = false := beq_eq_false_iff_ne.mpr c136
                                have c136b1 : (t273 != (rd t263 x359_10)) = true := bne_iff_ne.mpr c136
                                first
                                | exact absurd (H.trans (congrArg some HR_.out)) (by decide)
                                |
                                 obtain rfl := Option.some.inj H
                                 have p272 : 0 ≤ (x359_10 : Int) := of_decide_eq_true (by first | (with_reducible assumption) | assumption)
                                 have q272 : x359_10 < (t263.length : Int) := of_decide_eq_true (by first | (with_reducible assumption) | assumption)
                                 obtain ⟨ad272, e272, hx272_0⟩ := Kd.at_int (Kd.R_reads' HO_357.out).2.2 x359_10 p272 q272
                                 cases e272
                                 replace p272 := eq_true p272
                                 replace q272 := eq_true q272
                                 go_wp2_with (first | ((with_reducible refine gate_callee (f := 15) rfl ?_); refine goesL_ (some 369) rfl rfl Try.func15 (by kernel_rfl) rfl #[.int .i64 (wrap64 (x359_10 + 1)), .int .i64 t260, .bool t261] rfl (by (try simp only [List.map_toArray, List.map_cons, List.map_nil]); first | done | rfl | (simp only [List.length_drop, List.length_take]; rfl)) ?_; (with_reducible refine (impl_NullityByRows.calls (wrap64 (x359_10 + 1)) t260 t261 t273 true _ A134.out).mono ?_); rintro e w138 ⟨rfl, hb⟩; refine ⟨_, rfl, ?_⟩; have n0_ := Aside0.mk (Kd.R_below (by (with_reducible repeat (first | apply Kd.R_alloc | apply Kd.R_drewN | apply Kd.R_drew)); exact HO_357.out) hb); have n1_ := Aside0.mk (below_step (by repeat (first | (with_reducible first | exact HB.out | apply below_alloc | apply pw_below_drewN | apply below_drew1) | exact HB.out)) hb); clear HO_357; clear HB; have HO_357 := n0_; have HB := n1_; clear n0_ n1_; (try clear hb); (try clear hb2); (try clear hk); (try clear hi)))
                                 go_ret
                                 exact ⟨by first | rfl | (simp [errW_none, errW_some] <;> rfl) | (simp [*, errW_none, errW_some] <;> rfl), by repeat (first | (with_reducible first | exact HB.out | apply below_alloc | apply pw_below_drewN | apply below_drew1) | exact HB.out)⟩
                              ·
                               replace c135 := Bool.eq_false_iff.mpr c135
                               subst c135
                               have H1 : (some false) = some r := by rw [if_neg (show ¬ (false = true) by decide)] at H; exact H
                               clear H
                               have H := H1
                               clear H1
                               first
                               | exact absurd (H.trans (congrArg some HR_.out)) (by decide)
                               |
                                obtain rfl := Option.some.inj H
                                have p272 : 0 ≤ (x359_10 : Int) := of_decide_eq_true (by first | (with_reducible assumption) | assumption)
                                have q272 : x359_10 < (t263.length : Int) := of_decide_eq_true (by first | (with_reducible assumption) | assumption)
                                obtain ⟨ad272, e272, hx272_0⟩ := Kd.at_int (Kd.R_reads' HO_357.out).2.2 x359_10 p272 q272
                                cases e272
                                replace p272 := eq_true p272
                                replace q272 := eq_true q272
                                go_wp2_with (first | ((with_reducible refine gate_callee (f := 15) rfl ?_); refine goesL_ (some 369) rfl rfl Try.func15 (by kernel_rfl) rfl #[.int .i64 (wrap64 (x359_10 + 1)), .int .i64 t260, .bool t261] rfl (by (try simp only [List.map_toArray, List.map_cons, List.map_nil]); first | done | rfl | (simp only [List.length_drop, List.length_take]; rfl)) ?_; (with_reducible refine (impl_NullityByRows.calls (wrap64 (x359_10 + 1)) t260 t261 t273 false _ A134.out).mono ?_); rintro e w139 ⟨rfl, hb⟩; refine ⟨_, rfl, ?_⟩; have n0_ := Aside0.mk (Kd.R_below (by (with_reducible repeat (first | apply Kd.R_alloc | apply Kd.R_drewN | apply Kd.R_drew)); exact HO_357.out) hb); have n1_ := Aside0.mk (below_step (by repeat (first | (with_reducible first | exact HB.out | apply below_alloc | apply pw_below_drewN | apply below_drew1) | exact HB.out)) hb); clear HO_357; clear HB; have HO_357 := n0_; have HB := n1_; clear n0_ n1_; (try clear hb); (try clear hb2); (try clear hk); (try clear hi)))
                                go_ret
                                exact ⟨by first | rfl | (simp [errW_none, errW_some] <;> rfl) | (simp [*, errW_none, errW_some] <;> rfl), by repeat (first | (with_reducible first | exact HB.out | apply below_alloc | apply pw_below_drewN | apply below_drew1) | exact HB.out)⟩
                             ·
                              rw [if_neg c133] at H
                              exact absurd H (by simp)
                            ·
                             rw [if_neg c132] at H
                             exact absurd H (by simp)
                           ·
                            rw [if_neg c131] at H
                            have c131b0 : decide (x359_10 < (t263.length : Int)) = false := decide_eq_false c131
                            clear c131
                            first
                            | exact absurd (H.trans (congrArg some HR_.out)) (by decide)
                            |
                             obtain rfl := Option.some.inj H
                             go_wp2
                             go_ret
                             exact ⟨by first | rfl | (simp [errW_none, errW_some] <;> rfl) | (simp [*, errW_none, errW_some] <;> rfl), by repeat (first | (with_reducible first | exact HB.out | apply below_alloc | apply pw_below_drewN | apply below_drew1) | exact HB.out)⟩
 
/-- THE ONE PURE STATEMENT of laws_FnRowsTellNullities: yours. -/
def laws_FnRowsTellNullities.Pure : Prop := ∀ (l0 : List Int) (l1 : List Int), l0.length ≤ maxLen → l0.length * 1 ≤ 140737488351232 → (∀ x ∈ l0, (Lit.int .u8 x).wf = true) → l1.length ≤ maxLen → l1.length * 1 ≤ 140737488351232 → (∀ x ∈ l1, (Lit.int .u8 x).wf = true) → ∃ k, laws_FnRowsTellNullities.f k l0 l1 = some true
theorem laws_FnRowsTellNullities.walk (P : laws_FnRowsTellNullities.Pure) (a0 : Option Addr) (len0 cap0 : Nat) (z0 : List Int) (a1 : Option Addr) (len1 cap1 : Nat) (z1 : List Int) (w : World) (w0 : (a0 = none ∧ len0 = 0 ∧ cap0 = 0 ∧ z0 = []) ∨ ∃ x, a0 = some x ∧ len0 ≤ cap0 ∧ cap0 ≤ maxLen ∧ z0.length = cap0 ∧ (∀ i, i < z0.length → w.cell? (x.add i) = some (.int .u8 (z0.getD i 0))) ∧ ∀ n ∈ z0, (Lit.int .u8 n).wf = true) (y0 : len0 * 1 ≤ 140737488351232) (w1 : (a1 = none ∧ len1 = 0 ∧ cap1 = 0 ∧ z1 = []) ∨ ∃ x, a1 = some x ∧ len1 ≤ cap1 ∧ cap1 ≤ maxLen ∧ z1.length = cap1 ∧ (∀ i, i < z1.length → w.cell? (x.add i) = some (.int .u8 (z1.getD i 0))) ∧ ∀ n ∈ z1, (Lit.int .u8 n).wf = true) (y1 : len1 * 1 ≤ 140737488351232) :
    Calls Try.prog 5 #[.slice a0 len0 cap0, .slice a1 len1 cap1] w fun e w' => e = .returned (.bool true) ∧ Below w.heap.size w w' := by
  obtain ⟨l0, rfl, hr0, hm0, hw0, hc0⟩ := ReadsInt.ofRowC w0
  obtain ⟨l1, rfl, hr1, hm1, hw1, hc1⟩ := ReadsInt.ofRowC w1
  obtain ⟨k, h⟩ := P l0 l1 hm0 y0 hw0 hm1 y1 hw1
  refine (laws_FnRowsTellNullities.calls k _ _ l0 _ _ l1 true w (Kd.C_of_reads (d := (0 : Int)) (h1 := fun _ => rfl) hr0) hc0 (Kd.C_of_reads (d := (0 : Int)) (h1 := fun _ => rfl) hr1) hc1 h rfl).mono ?_
  rintro e w' ⟨rfl, hd⟩
  exact ⟨rfl, hd⟩

end Go.Proofs.Ytgnjndkbccakgaa.PFnRowsTellNullities
