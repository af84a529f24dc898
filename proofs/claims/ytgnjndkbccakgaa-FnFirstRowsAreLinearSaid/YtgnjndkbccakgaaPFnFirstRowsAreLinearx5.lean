-- WRITTEN BY xprint.py, a program of this session, which runs the kit's print over functions with given contracts
import Derived.Test.YtgnjndkbccakgaaPFnFirstRowsAreLinearx0
import Derived.Test.YtgnjndkbccakgaaPFnFirstRowsAreLinearx1
import Derived.Test.YtgnjndkbccakgaaPFnFirstRowsAreLinearx2
import Derived.Test.YtgnjndkbccakgaaPFnFirstRowsAreLinearx3
import Derived.Test.YtgnjndkbccakgaaPFnFirstRowsAreLinearx4
namespace Go.Proofs.Ytgnjndkbccakgaa.PFnFirstRowsAreLinear
open Go.RowKit Go.Proofs.YtgnjndkbccakgaaW.PrintWords Go.Proofs.YtgnjndkbccakgaaW.PrintLast Go.Proofs.YtgnjndkbccakgaaW.PrintMore
attribute [local go_sem] max2_int min2_int max_two min_two max_three min_three max_four min_four   -- for this text's walks alone
set_option linter.unusedVariables false
set_option linter.unusedSimpArgs false

/-! ### laws_FnFirstRowsAreLinear: function 3 -/
mutual
def laws_FnFirstRowsAreLinear.j0 : Nat → List Int → List Int → Int → Int → Bool → List Int → Bool → Bool → Option (Bool)
  | 0, _, _, _, _, _, _, _, _ => none
  | k + 1, x0, x1, x5, x6, x7, x8, x9, x63 => if x63 = true then (some false) else (if x9 = true then (if 0 ≤ x6 then (if (shl .i64 1 x6) = 0 then (none) else (laws_FnFirstRowsAreLinear.l0 k x1 x5 x6 x7 (Go.bits .xor .i64 (Int.tmod (wrap64 ((x0.length : Int) * 37)) (shl .i64 1 x6)) ((x1.length : Int) % (shl .i64 1 x6))) 0 x8 (x8.length : Int) 0)) else (none)) else (laws_FnFirstRowsAreLinear.j2 k x1))
def laws_FnFirstRowsAreLinear.j2 : Nat → List Int → Option (Bool)
  | 0, _ => none
  | k + 1, x1 => (spec_DrawLastRowTable.f x1).bind fun bt243 => ((impl_LastRowTable.f k bt243.1 bt243.2.1 bt243.2.2).bind fun bt246 => ((spec_LastRowTable.f k bt243.1 bt243.2.1 bt243.2.2).bind fun bt250 => (if (bt246.2 != bt250.2) = true then (laws_FnFirstRowsAreLinear.j3 k bt243.1 bt243.2.1 bt243.2.2 bt246.1 bt246.2 true) else ((laws_hSame.f k bt246.1 bt250.1).bind fun t254 => (laws_FnFirstRowsAreLinear.j3 k bt243.1 bt243.2.1 bt243.2.2 bt246.1 bt246.2 (!t254))))))
def laws_FnFirstRowsAreLinear.j3 : Nat → Int → Int → Bool → List Int → Bool → Bool → Option (Bool)
  | 0, _, _, _, _, _, _ => none
  | k + 1, x18, x19, x20, x21, x22, x136 => if x136 = true then (some false) else (if x22 = true then (laws_FnFirstRowsAreLinear.l1 k x18 x19 x20 0 x21 (x21.length : Int) 0) else (some true))
def laws_FnFirstRowsAreLinear.l1 : Nat → Int → Int → Bool → Int → List Int → Int → Int → Option (Bool)
  | 0, _, _, _, _, _, _, _ => none
  | k + 1, x18, x19, x20, x25, x138, x139, x140 => if x140 < x139 then (if 0 ≤ x140 then (if x140 < (x138.length : Int) then (if (rd x138 x140) < 0 then (laws_FnFirstRowsAreLinear.l1 k x18 x19 x20 x25 x138 x139 (wrap64 (x140 + 1))) else (if 0 ≤ (wrap64 (x19 * (wrap64 (x18 - 1)))) then ((impl_ChaseLeft.f k x18 x19 x20 (shl .i64 x140 (wrap64 (x19 * (wrap64 (x18 - 1))))) (rd x138 x140)).bind fun bt258 => (if bt258.2 = true then (if bt258.1 = 0 then (laws_FnFirstRowsAreLinear.l1 k x18 x19 x20 (wrap64 (x25 + 1)) x138 x139 (wrap64 (x140 + 1))) else (some false)) else (some false))) else (none))) else (none)) else (none)) else ((impl_NullityByRows.f x18 x19 x20).bind fun bt255 => (if bt255.2 = true then (if 0 ≤ (wrap64 (x19 - bt255.1)) then (some (x25 == (shl .i64 1 (wrap64 (x19 - bt255.1))))) else (none)) else (some false)))
def laws_FnFirstRowsAreLinear.l0 : Nat → List Int → Int → Int → Bool → Int → Int → List Int → Int → Int → Option (Bool)
  | 0, _, _, _, _, _, _, _, _, _ => none
  | k + 1, x1, x5, x6, x7, x12, x13, x77, x78, x79 => if x79 < x78 then (if 0 ≤ x79 then (if x79 < (x77.length : Int) then (if (Int.tmod (shr .i64 x12 x79) 2) = 1 then (laws_FnFirstRowsAreLinear.l0 k x1 x5 x6 x7 x12 (Go.bits .xor .i64 x13 (rd x77 x79)) x77 x78 (wrap64 (x79 + 1))) else (laws_FnFirstRowsAreLinear.l0 k x1 x5 x6 x7 x12 x13 x77 x78 (wrap64 (x79 + 1)))) else (none)) else (none)) else ((impl_ChaseLeft.f k x5 x6 x7 0 x12).bind fun bt241 => (if bt241.2 = true then (if bt241.1 = x13 then (laws_FnFirstRowsAreLinear.j2 k x1) else (some false)) else (some false)))
end
def laws_FnFirstRowsAreLinear.f (k : Nat) (l0 : List Int) (l1 : List Int) : Option (Bool) := (laws_big.f l0 l1).bind fun t227 => (if t227 = true then (some true) else ((spec_DrawFirstRowMap.f l0).bind fun bt228 => ((impl_FirstRowMap.f k bt228.1 bt228.2.1 bt228.2.2).bind fun bt231 => ((spec_FirstRowMap.f k bt228.1 bt228.2.1 bt228.2.2).bind fun bt235 => (if (bt231.2 != bt235.2) = true then (laws_FnFirstRowsAreLinear.j0 k l0 l1 bt228.1 bt228.2.1 bt228.2.2 bt231.1 bt231.2 true) else ((laws_hSame.f k bt231.1 bt235.1).bind fun t239 => (laws_FnFirstRowsAreLinear.j0 k l0 l1 bt228.1 bt228.2.1 bt228.2.2 bt231.1 bt231.2 (!t239))))))))
theorem laws_FnFirstRowsAreLinear.mono_l : ∀ k, (∀ y0 y1 y2 y3 y4 y5 y6 y7, LeO (laws_FnFirstRowsAreLinear.j0 k y0 y1 y2 y3 y4 y5 y6 y7) (laws_FnFirstRowsAreLinear.j0 (k + 1) y0 y1 y2 y3 y4 y5 y6 y7)) ∧ (∀ y0, LeO (laws_FnFirstRowsAreLinear.j2 k y0) (laws_FnFirstRowsAreLinear.j2 (k + 1) y0)) ∧ (∀ y0 y1 y2 y3 y4 y5, LeO (laws_FnFirstRowsAreLinear.j3 k y0 y1 y2 y3 y4 y5) (laws_FnFirstRowsAreLinear.j3 (k + 1) y0 y1 y2 y3 y4 y5)) ∧ (∀ y0 y1 y2 y3 y4 y5 y6, LeO (laws_FnFirstRowsAreLinear.l1 k y0 y1 y2 y3 y4 y5 y6) (laws_FnFirstRowsAreLinear.l1 (k + 1) y0 y1 y2 y3 y4 y5 y6)) ∧ (∀ y0 y1 y2 y3 y4 y5 y6 y7 y8, LeO (laws_FnFirstRowsAreLinear.l0 k y0 y1 y2 y3 y4 y5 y6 y7 y8) (laws_FnFirstRowsAreLinear.l0 (k + 1) y0 y1 y2 y3 y4 y5 y6 y7 y8))
  | 0 => ⟨fun _ _ _ _ _ _ _ _ r h => by simp [laws_FnFirstRowsAreLinear.j0] at h, fun _ r h => by simp [laws_FnFirstRowsAreLinear.j2] at h, fun _ _ _ _ _ _ r h => by simp [laws_FnFirstRowsAreLinear.j3] at h, fun _ _ _ _ _ _ _ r h => by simp [laws_FnFirstRowsAreLinear.l1] at h, fun _ _ _ _ _ _ _ _ _ r h => by simp [laws_FnFirstRowsAreLinear.l0] at h⟩
  | k + 1 => by
    obtain ⟨ih0, ih1, ih2, ih3, ih4⟩ := laws_FnFirstRowsAreLinear.mono_l k
    refine ⟨?_, ?_, ?_, ?_, ?_⟩
    · intro y0 y1 y2 y3 y4 y5 y6 y7
      unfold laws_FnFirstRowsAreLinear.j0
      repeat' first
      | (with_reducible exact ih0 _ _ _ _ _ _ _ _)
      | (with_reducible exact ih1 _)
      | (with_reducible exact ih2 _ _ _ _ _ _)
      | (with_reducible exact ih3 _ _ _ _ _ _ _)
      | (with_reducible exact ih4 _ _ _ _ _ _ _ _ _)
      | (with_reducible exact impl_ChaseLeft.mono _ _ _ _ _ _)
      | (with_reducible exact impl_FirstRowMap.mono _ _ _ _)
      | (with_reducible exact impl_LastRowTable.mono _ _ _ _)
      | (with_reducible exact laws_hSame.mono _ _ _)
      | (with_reducible exact spec_FirstRowMap.mono _ _ _ _)
      | (with_reducible exact spec_LastRowTable.mono _ _ _ _)
      | (with_reducible exact LeO.refl _)
      | (with_reducible exact LeO.none _)
      | (with_reducible refine LeO.ite ?_ ?_)
      | (with_reducible refine LeO.bind ?_ (fun _ => ?_))
      | exact ih0 _ _ _ _ _ _ _ _
      | exact ih1 _
      | exact ih2 _ _ _ _ _ _
      | exact ih3 _ _ _ _ _ _ _
      | exact ih4 _ _ _ _ _ _ _ _ _
      | exact impl_ChaseLeft.mono _ _ _ _ _ _
      | exact impl_FirstRowMap.mono _ _ _ _
      | exact impl_LastRowTable.mono _ _ _ _
      | exact laws_hSame.mono _ _ _
      | exact spec_FirstRowMap.mono _ _ _ _
      | exact spec_LastRowTable.mono _ _ _ _
      | exact LeO.none _
      | refine LeO.ite ?_ ?_
      | refine LeO.bind ?_ (fun _ => ?_)
    · intro y0
      unfold laws_FnFirstRowsAreLinear.j2
      repeat' first
      | (with_reducible exact ih0 _ _ _ _ _ _ _ _)
      | (with_reducible exact ih1 _)
      | (with_reducible exact ih2 _ _ _ _ _ _)
      | (with_reducible exact ih3 _ _ _ _ _ _ _)
      | (with_reducible exact ih4 _ _ _ _ _ _ _ _ _)
      | (with_reducible exact impl_ChaseLeft.mono _ _ _ _ _ _)
      | (with_reducible exact impl_FirstRowMap.mono _ _ _ _)
      | (with_reducible exact impl_LastRowTable.mono _ _ _ _)
      | (with_reducible exact laws_hSame.mono _ _ _)
      | (with_reducible exact spec_FirstRowMap.mono _ _ _ _)
      | (with_reducible exact spec_LastRowTable.mono _ _ _ _)
      | (with_reducible exact LeO.refl _)
      | (with_reducible exact LeO.none _)
      | (with_reducible refine LeO.ite ?_ ?_)
      | (with_reducible refine LeO.bind ?_ (fun _ => ?_))
      | exact ih0 _ _ _ _ _ _ _ _
      | exact ih1 _
      | exact ih2 _ _ _ _ _ _
      | exact ih3 _ _ _ _ _ _ _
      | exact ih4 _ _ _ _ _ _ _ _ _
      | exact impl_ChaseLeft.mono _ _ _ _ _ _
      | exact impl_FirstRowMap.mono _ _ _ _
      | exact impl_LastRowTable.mono _ _ _ _
      | exact laws_hSame.mono _ _ _
      | exact spec_FirstRowMap.mono _ _ _ _
      | exact spec_LastRowTable.mono _ _ _ _
      | exact LeO.none _
      | refine LeO.ite ?_ ?_
      | refine LeO.bind ?_ (fun _ => ?_)
    · intro y0 y1 y2 y3 y4 y5
      unfold laws_FnFirstRowsAreLinear.j3
      repeat' first
      | (with_reducible exact ih0 _ _ _ _ _ _ _ _)
      | (with_reducible exact ih1 _)
      | (with_reducible exact ih2 _ _ _ _ _ _)
      | (with_reducible exact ih3 _ _ _ _ _ _ _)
      | (with_reducible exact ih4 _ _ _ _ _ _ _ _ _)
      | (with_reducible exact impl_ChaseLeft.mono _ _ _ _ _ _)
      | (with_reducible exact impl_FirstRowMap.mono _ _ _ _)
      | (with_reducible exact impl_LastRowTable.mono _ _ _ _)
      | (with_reducible exact laws_hSame.mono _ _ _)
      | (with_reducible exact spec_FirstRowMap.mono _ _ _ _)
      | (with_reducible exact spec_LastRowTable.mono _ _ _ _)
      | (with_reducible exact LeO.refl _)
      | (with_reducible exact LeO.none _)
      | (with_reducible refine LeO.ite ?_ ?_)
      | (with_reducible refine LeO.bind ?_ (fun _ => ?_))
      | exact ih0 _ _ _ _ _ _ _ _
      | exact ih1 _
      | exact ih2 _ _ _ _ _ _
      | exact ih3 _ _ _ _ _ _ _
      | exact ih4 _ _ _ _ _ _ _ _ _
      | exact impl_ChaseLeft.mono _ _ _ _ _ _
      | exact impl_FirstRowMap.mono _ _ _ _
      | exact impl_LastRowTable.mono _ _ _ _
      | exact laws_hSame.mono _ _ _
      | exact spec_FirstRowMap.mono _ _ _ _
      | exact spec_LastRowTable.mono _ _ _ _
      | exact LeO.none _
      | refine LeO.ite ?_ ?_
      | refine LeO.bind ?_ (fun _ => ?_)
    · intro y0 y1 y2 y3 y4 y5 y6
      unfold laws_FnFirstRowsAreLinear.l1
      repeat' first
      | (with_reducible exact ih0 _ _ _ _ _ _ _ _)
      | (with_reducible exact ih1 _)
      | (with_reducible exact ih2 _ _ _ _ _ _)
      | (with_reducible exact ih3 _ _ _ _ _ _ _)
      | (with_reducible exact ih4 _ _ _ _ _ _ _ _ _)
      | (with_reducible exact impl_ChaseLeft.mono _ _ _ _ _ _)
      | (with_reducible exact impl_FirstRowMap.mono _ _ _ _)
      | (with_reducible exact impl_LastRowTable.mono _ _ _ _)
      | (with_reducible exact laws_hSame.mono _ _ _)
      | (with_reducible exact spec_FirstRowMap.mono _ _ _ _)
      | (with_reducible exact spec_LastRowTable.mono _ _ _ _)
      | (with_reducible exact LeO.refl _)
      | (with_reducible exact LeO.none _)
      | (with_reducible refine LeO.ite ?_ ?_)
      | (with_reducible refine LeO.bind ?_ (fun _ => ?_))
      | exact ih0 _ _ _ _ _ _ _ _
      | exact ih1 _
      | exact ih2 _ _ _ _ _ _
      | exact ih3 _ _ _ _ _ _ _
      | exact ih4 _ _ _ _ _ _ _ _ _
      | exact impl_ChaseLeft.mono _ _ _ _ _ _
      | exact impl_FirstRowMap.mono _ _ _ _
      | exact impl_LastRowTable.mono _ _ _ _
      | exact laws_hSame.mono _ _ _
      | exact spec_FirstRowMap.mono _ _ _ _
      | exact spec_LastRowTable.mono _ _ _ _
      | exact LeO.none _
      | refine LeO.ite ?_ ?_
      | refine LeO.bind ?_ (fun _ => ?_)
    · intro y0 y1 y2 y3 y4 y5 y6 y7 y8
      unfold laws_FnFirstRowsAreLinear.l0
      repeat' first
      | (with_reducible exact ih0 _ _ _ _ _ _ _ _)
      | (with_reducible exact ih1 _)
      | (with_reducible exact ih2 _ _ _ _ _ _)
      | (with_reducible exact ih3 _ _ _ _ _ _ _)
      | (with_reducible exact ih4 _ _ _ _ _ _ _ _ _)
      | (with_reducible exact impl_ChaseLeft.mono _ _ _ _ _ _)
      | (with_reducible exact impl_FirstRowMap.mono _ _ _ _)
      | (with_reducible exact impl_LastRowTable.mono _ _ _ _)
      | (with_reducible exact laws_hSame.mono _ _ _)
      | (with_reducible exact spec_FirstRowMap.mono _ _ _ _)
      | (with_reducible exact spec_LastRowTable.mono _ _ _ _)
      | (with_reducible exact LeO.refl _)
      | (with_reducible exact LeO.none _)
      | (with_reducible refine LeO.ite ?_ ?_)
      | (with_reducible refine LeO.bind ?_ (fun _ => ?_))
      | exact ih0 _ _ _ _ _ _ _ _
      | exact ih1 _
      | exact ih2 _ _ _ _ _ _
      | exact ih3 _ _ _ _ _ _ _
      | exact ih4 _ _ _ _ _ _ _ _ _
      | exact impl_ChaseLeft.mono _ _ _ _ _ _
      | exact impl_FirstRowMap.mono _ _ _ _
      | exact impl_LastRowTable.mono _ _ _ _
      | exact laws_hSame.mono _ _ _
      | exact spec_FirstRowMap.mono _ _ _ _
      | exact spec_LastRowTable.mono _ _ _ _
      | exact LeO.none _
      | refine LeO.ite ?_ ?_
      | refine LeO.bind ?_ (fun _ => ?_)
theorem laws_FnFirstRowsAreLinear.mono : ∀ a0 a1 k, LeO (laws_FnFirstRowsAreLinear.f k a0 a1) (laws_FnFirstRowsAreLinear.f (k + 1) a0 a1) := by
  intro a0 a1 k
  obtain ⟨ih0, ih1, ih2, ih3, ih4⟩ := laws_FnFirstRowsAreLinear.mono_l k
  unfold laws_FnFirstRowsAreLinear.f
  repeat' first
      | (with_reducible exact ih0 _ _ _ _ _ _ _ _)
      | (with_reducible exact ih1 _)
      | (with_reducible exact ih2 _ _ _ _ _ _)
      | (with_reducible exact ih3 _ _ _ _ _ _ _)
      | (with_reducible exact ih4 _ _ _ _ _ _ _ _ _)
      | (with_reducible exact impl_ChaseLeft.mono _ _ _ _ _ _)
      | (with_reducible exact impl_FirstRowMap.mono _ _ _ _)
      | (with_reducible exact impl_LastRowTable.mono _ _ _ _)
      | (with_reducible exact laws_hSame.mono _ _ _)
      | (with_reducible exact spec_FirstRowMap.mono _ _ _ _)
      | (with_reducible exact spec_LastRowTable.mono _ _ _ _)
      | (with_reducible exact LeO.refl _)
      | (with_reducible exact LeO.none _)
      | (with_reducible refine LeO.ite ?_ ?_)
      | (with_reducible refine LeO.bind ?_ (fun _ => ?_))
      | exact ih0 _ _ _ _ _ _ _ _
      | exact ih1 _
      | exact ih2 _ _ _ _ _ _
      | exact ih3 _ _ _ _ _ _ _
      | exact ih4 _ _ _ _ _ _ _ _ _
      | exact impl_ChaseLeft.mono _ _ _ _ _ _
      | exact impl_FirstRowMap.mono _ _ _ _
      | exact impl_LastRowTable.mono _ _ _ _
      | exact laws_hSame.mono _ _ _
      | exact spec_FirstRowMap.mono _ _ _ _
      | exact spec_LastRowTable.mono _ _ _ _
      | exact LeO.none _
      | refine LeO.ite ?_ ?_
      | refine LeO.bind ?_ (fun _ => ?_)
set_option maxHeartbeats 8000000 in
set_option maxRecDepth 100000 in
theorem laws_FnFirstRowsAreLinear.calls (k : Nat) (A0 : Option Addr) (c0 : Nat) (l0 : List Int) (A1 : Option Addr) (c1 : Nat) (l1 : List Int) (r : Bool) (w : World) (hr0 : Kd.C (Kd.int .u8) w A0 l0.length l0) (hc0 : l0.length ≤ c0) (hr1 : Kd.C (Kd.int .u8) w A1 l1.length l1) (hc1 : l1.length ≤ c1) (h : laws_FnFirstRowsAreLinear.f k l0 l1 = some r) :
    Calls Try.prog 3 #[.slice A0 l0.length c0, .slice A1 l1.length c1] w fun e w' => e = .returned (.bool r) ∧ Below w.heap.size w w' := by
  have HR0 := Aside0.mk hr0
  have HC0 := Aside0.mk hc0
  clear hr0 hc0
  have HR1 := Aside0.mk hr1
  have HC1 := Aside0.mk hc1
  clear hr1 hc1
  have HB := Aside0.mk (Below.refl w.heap.size w)
  have H : ((laws_big.f l0 l1).bind fun t227 => (if t227 = true then (some true) else ((spec_DrawFirstRowMap.f l0).bind fun bt228 => ((impl_FirstRowMap.f k bt228.1 bt228.2.1 bt228.2.2).bind fun bt231 => ((spec_FirstRowMap.f k bt228.1 bt228.2.1 bt228.2.2).bind fun bt235 => (if (bt231.2 != bt235.2) = true then (laws_FnFirstRowsAreLinear.j0 k l0 l1 bt228.1 bt228.2.1 bt228.2.2 bt231.1 bt231.2 true) else ((laws_hSame.f k bt231.1 bt235.1).bind fun t239 => (laws_FnFirstRowsAreLinear.j0 k l0 l1 bt228.1 bt228.2.1 bt228.2.2 bt231.1 bt231.2 (!t239))))))))) = some r := h
  clear h
  replace H := Option.bind_eq_some_iff.mp H
  obtain ⟨t227, A30, H⟩ := H
  replace H : (if t227 = true then (some true) else ((spec_DrawFirstRowMap.f l0).bind fun bt228 => ((impl_FirstRowMap.f k bt228.1 bt228.2.1 bt228.2.2).bind fun bt231 => ((spec_FirstRowMap.f k bt228.1 bt228.2.1 bt228.2.2).bind fun bt235 => (if (bt231.2 != bt235.2) = true then (laws_FnFirstRowsAreLinear.j0 k l0 l1 bt228.1 bt228.2.1 bt228.2.2 bt231.1 bt231.2 true) else ((laws_hSame.f k bt231.1 bt235.1).bind fun t239 => (laws_FnFirstRowsAreLinear.j0 k l0 l1 bt228.1 bt228.2.1 bt228.2.2 bt231.1 bt231.2 (!t239)))))))) = some r := H
  have A3 := Aside0.mk A30
  clear A30
  by_cases c4 : t227 = true
  · subst c4
    have H1 : (some true) = some r := by rw [if_pos rfl] at H; exact H
    clear H
    have H := H1
    clear H1
    obtain rfl := Option.some.inj H
    go_enter Try.func3, Try.ntmps3
    go_wp2_with (first | (go_at_call 6; (with_reducible refine (laws_big.calls _ _ l0 _ _ l1 true _ ?side1 ?side2 ?side3 ?side4 A3.out).mono ?_); (case side1 => repeat (first | exact HR0.out | (with_reducible refine Kd.C_alloc ?_ _) | (with_reducible refine Kd.C_drewN ?_ _) | (with_reducible refine Kd.C_drew ?_))); (case side2 => exact HC0.out); (case side3 => repeat (first | exact HR1.out | (with_reducible refine Kd.C_alloc ?_ _) | (with_reducible refine Kd.C_drewN ?_ _) | (with_reducible refine Kd.C_drew ?_))); (case side4 => exact HC1.out); rintro e w' ⟨rfl, ⟨nd, rfl⟩⟩; (try first | exact ⟨rfl, _, World.drewN_drewN _ _ _⟩ | exact ⟨rfl, _, Eq.trans (World.drewN_drewN _ _ _) (congrArg (World.drewN _) (Nat.add_assoc _ _ _))⟩)))
    repeat (go_quiet (first | (go_at_call 6; (with_reducible refine (laws_big.calls _ _ l0 _ _ l1 true _ ?side1 ?side2 ?side3 ?side4 A3.out).mono ?_); (case side1 => repeat (first | exact HR0.out | (with_reducible refine Kd.C_alloc ?_ _) | (with_reducible refine Kd.C_drewN ?_ _) | (with_reducible refine Kd.C_drew ?_))); (case side2 => exact HC0.out); (case side3 => repeat (first | exact HR1.out | (with_reducible refine Kd.C_alloc ?_ _) | (with_reducible refine Kd.C_drewN ?_ _) | (with_reducible refine Kd.C_drew ?_))); (case side4 => exact HC1.out); rintro e w' ⟨rfl, ⟨nd, rfl⟩⟩; (try first | exact ⟨rfl, _, World.drewN_drewN _ _ _⟩ | exact ⟨rfl, _, Eq.trans (World.drewN_drewN _ _ _) (congrArg (World.drewN _) (Nat.add_assoc _ _ _))⟩))); try go_wp2_with (first | (go_at_call 6; (with_reducible refine (laws_big.calls _ _ l0 _ _ l1 true _ ?side1 ?side2 ?side3 ?side4 A3.out).mono ?_); (case side1 => repeat (first | exact HR0.out | (with_reducible refine Kd.C_alloc ?_ _) | (with_reducible refine Kd.C_drewN ?_ _) | (with_reducible refine Kd.C_drew ?_))); (case side2 => exact HC0.out); (case side3 => repeat (first | exact HR1.out | (with_reducible refine Kd.C_alloc ?_ _) | (with_reducible refine Kd.C_drewN ?_ _) | (with_reducible refine Kd.C_drew ?_))); (case side4 => exact HC1.out); rintro e w' ⟨rfl, ⟨nd, rfl⟩⟩; (try first | exact ⟨rfl, _, World.drewN_drewN _ _ _⟩ | exact ⟨rfl, _, Eq.trans (World.drewN_drewN _ _ _) (congrArg (World.drewN _) (Nat.add_assoc _ _ _))⟩))))
    go_ret
    exact ⟨by first | rfl | (simp [errW_none, errW_some] <;> rfl) | (simp [*, errW_none, errW_some] <;> rfl), by repeat (first | (with_reducible first | exact HB.out | apply below_alloc | apply pw_below_drewN | apply below_drew1) | exact HB.out)⟩
  · replace c4 := Bool.eq_false_iff.mpr c4
    subst c4
    have H1 : ((spec_DrawFirstRowMap.f l0).bind fun bt228 => ((impl_FirstRowMap.f k bt228.1 bt228.2.1 bt228.2.2).bind fun bt231 => ((spec_FirstRowMap.f k bt228.1 bt228.2.1 bt228.2.2).bind fun bt235 => (if (bt231.2 != bt235.2) = true then (laws_FnFirstRowsAreLinear.j0 k l0 l1 bt228.1 bt228.2.1 bt228.2.2 bt231.1 bt231.2 true) else ((laws_hSame.f k bt231.1 bt235.1).bind fun t239 => (laws_FnFirstRowsAreLinear.j0 k l0 l1 bt228.1 bt228.2.1 bt228.2.2 bt231.1 bt231.2 (!t239))))))) = some r := by rw [if_neg (show ¬ (false = true) by decide)] at H; exact H
    clear H
    have H := H1
    clear H1
    replace H := Option.bind_eq_some_iff.mp H
    obtain ⟨⟨t228, t229, t230⟩, A50, H⟩ := H
    replace H : ((impl_FirstRowMap.f k t228 t229 t230).bind fun bt231 => ((spec_FirstRowMap.f k t228 t229 t230).bind fun bt235 => (if (bt231.2 != bt235.2) = true then (laws_FnFirstRowsAreLinear.j0 k l0 l1 t228 t229 t230 bt231.1 bt231.2 true) else ((laws_hSame.f k bt231.1 bt235.1).bind fun t239 => (laws_FnFirstRowsAreLinear.j0 k l0 l1 t228 t229 t230 bt231.1 bt231.2 (!t239)))))) = some r := H
    have A5 := Aside0.mk A50
    clear A50
    replace H := Option.bind_eq_some_iff.mp H
    obtain ⟨⟨t231, t232⟩, A60, H⟩ := H
    replace H : ((spec_FirstRowMap.f k t228 t229 t230).bind fun bt235 => (if (t232 != bt235.2) = true then (laws_FnFirstRowsAreLinear.j0 k l0 l1 t228 t229 t230 t231 t232 true) else ((laws_hSame.f k t231 bt235.1).bind fun t239 => (laws_FnFirstRowsAreLinear.j0 k l0 l1 t228 t229 t230 t231 t232 (!t239))))) = some r := H
    have A6 := Aside0.mk A60
    clear A60
    replace H := Option.bind_eq_some_iff.mp H
    obtain ⟨⟨t235, t236⟩, A70, H⟩ := H
    replace H : (if (t232 != t236) = true then (laws_FnFirstRowsAreLinear.j0 k l0 l1 t228 t229 t230 t231 t232 true) else ((laws_hSame.f k t231 t235).bind fun t239 => (laws_FnFirstRowsAreLinear.j0 k l0 l1 t228 t229 t230 t231 t232 (!t239)))) = some r := H
    have A7 := Aside0.mk A70
    clear A70
    have HC8 := Aside0.mk H
    clear H
    go_enter Try.func3, Try.ntmps3
    go_upto_region 6 with (first | (go_at_call 6; (with_reducible refine (laws_big.calls _ _ l0 _ _ l1 false _ ?side1 ?side2 ?side3 ?side4 A3.out).mono ?_); (case side1 => repeat (first | exact HR0.out | (with_reducible refine Kd.C_alloc ?_ _) | (with_reducible refine Kd.C_drewN ?_ _) | (with_reducible refine Kd.C_drew ?_))); (case side2 => exact HC0.out); (case side3 => repeat (first | exact HR1.out | (with_reducible refine Kd.C_alloc ?_ _) | (with_reducible refine Kd.C_drewN ?_ _) | (with_reducible refine Kd.C_drew ?_))); (case side4 => exact HC1.out); rintro e w' ⟨rfl, ⟨nd, rfl⟩⟩; (try first | exact ⟨rfl, _, World.drewN_drewN _ _ _⟩ | exact ⟨rfl, _, Eq.trans (World.drewN_drewN _ _ _) (congrArg (World.drewN _) (Nat.add_assoc _ _ _))⟩)) | (go_at_call 7; (with_reducible refine (spec_DrawFirstRowMap.calls _ _ l0 t228 t229 t230 _ ?side1 ?side2 A5.out).mono ?_); (case side1 => repeat (first | exact HR0.out | (with_reducible refine Kd.C_alloc ?_ _) | (with_reducible refine Kd.C_drewN ?_ _) | (with_reducible refine Kd.C_drew ?_))); (case side2 => exact HC0.out); rintro e w9 ⟨rfl, hb⟩; have n0_ := Aside0.mk (below_step (by repeat (first | (with_reducible first | exact HB.out | apply below_alloc | apply pw_below_drewN | apply below_drew1) | exact HB.out)) hb); clear HB; have HB := n0_; clear n0_; (try clear hb); (try clear hb2); (try clear hk); (try clear hi)) | (go_at_call 8; (with_reducible refine (impl_FirstRowMap.calls k t228 t229 t230 t231 t232 _ A6.out).mono ?_); rintro e w10 ⟨v233, rfl, ho0, hb⟩; have n0_ := Aside0.mk (Kd.R_lower ho0 (below_size (by repeat (first | (with_reducible first | exact HB.out | apply below_alloc | apply pw_below_drewN | apply below_drew1) | exact HB.out)))); have n1_ := Aside0.mk (below_step (by repeat (first | (with_reducible first | exact HB.out | apply below_alloc | apply pw_below_drewN | apply below_drew1) | exact HB.out)) hb); clear HB; have HO234 := n0_; have HB := n1_; clear n0_ n1_; (try clear hb); (try clear hb2); (try clear hk); (try clear hi); (try clear ho0)) | (go_at_call 9; (with_reducible refine (spec_FirstRowMap.calls k t228 t229 t230 t235 t236 _ A7.out).mono ?_); rintro e w11 ⟨v237, rfl, ho0, hb⟩; have n0_ := Aside0.mk (Kd.R_elder' (by (with_reducible repeat (first | apply Kd.R_alloc | apply Kd.R_drewN | apply Kd.R_drew)); exact HO234.out) (Kd.R_base ho0) hb); have n1_ := Aside0.mk (Kd.R_lower (Kd.R_new' ho0 (Kd.R_lt (by (with_reducible repeat (first | apply Kd.R_alloc | apply Kd.R_drewN | apply Kd.R_drew)); exact HO234.out))) (below_size (by repeat (first | (with_reducible first | exact HB.out | apply below_alloc | apply pw_below_drewN | apply below_drew1) | exact HB.out)))); have n2_ := Aside0.mk (below_step (by repeat (first | (with_reducible first | exact HB.out | apply below_alloc | apply pw_below_drewN | apply below_drew1) | exact HB.out)) hb); clear HO234; clear HB; have HO234 := n0_; have HO238 := n1_; have HB := n2_; clear n0_ n1_ n2_; (try clear hb); (try clear hb2); (try clear hk); (try clear hi); (try clear ho0)))
    repeat (go_quiet (first | (go_at_call 6; (with_reducible refine (laws_big.calls _ _ l0 _ _ l1 false _ ?side1 ?side2 ?side3 ?side4 A3.out).mono ?_); (case side1 => repeat (first | exact HR0.out | (with_reducible refine Kd.C_alloc ?_ _) | (with_reducible refine Kd.C_drewN ?_ _) | (with_reducible refine Kd.C_drew ?_))); (case side2 => exact HC0.out); (case side3 => repeat (first | exact HR1.out | (with_reducible refine Kd.C_alloc ?_ _) | (with_reducible refine Kd.C_drewN ?_ _) | (with_reducible refine Kd.C_drew ?_))); (case side4 => exact HC1.out); rintro e w' ⟨rfl, ⟨nd, rfl⟩⟩; (try first | exact ⟨rfl, _, World.drewN_drewN _ _ _⟩ | exact ⟨rfl, _, Eq.trans (World.drewN_drewN _ _ _) (congrArg (World.drewN _) (Nat.add_assoc _ _ _))⟩)) | (go_at_call 7; (with_reducible refine (spec_DrawFirstRowMap.calls _ _ l0 t228 t229 t230 _ ?side1 ?side2 A5.out).mono ?_); (case side1 => repeat (first | exact HR0.out | (with_reducible refine Kd.C_alloc ?_ _) | (with_reducible refine Kd.C_drewN ?_ _) | (with_reducible refine Kd.C_drew ?_))); (case side2 => exact HC0.out); rintro e w9 ⟨rfl, hb⟩; have n0_ := Aside0.mk (below_step (by repeat (first | (with_reducible first | exact HB.out | apply below_alloc | apply pw_below_drewN | apply below_drew1) | exact HB.out)) hb); clear HB; have HB := n0_; clear n0_; (try clear hb); (try clear hb2); (try clear hk); (try clear hi)) | (go_at_call 8; (with_reducible refine (impl_FirstRowMap.calls k t228 t229 t230 t231 t232 _ A6.out).mono ?_); rintro e w10 ⟨v233, rfl, ho0, hb⟩; have n0_ := Aside0.mk (Kd.R_lower ho0 (below_size (by repeat (first | (with_reducible first | exact HB.out | apply below_alloc | apply pw_below_drewN | apply below_drew1) | exact HB.out)))); have n1_ := Aside0.mk (below_step (by repeat (first | (with_reducible first | exact HB.out | apply below_alloc | apply pw_below_drewN | apply below_drew1) | exact HB.out)) hb); clear HB; have HO234 := n0_; have HB := n1_; clear n0_ n1_; (try clear hb); (try clear hb2); (try clear hk); (try clear hi); (try clear ho0)) | (go_at_call 9; (with_reducible refine (spec_FirstRowMap.calls k t228 t229 t230 t235 t236 _ A7.out).mono ?_); rintro e w11 ⟨v237, rfl, ho0, hb⟩; have n0_ := Aside0.mk (Kd.R_elder' (by (with_reducible repeat (first | apply Kd.R_alloc | apply Kd.R_drewN | apply Kd.R_drew)); exact HO234.out) (Kd.R_base ho0) hb); have n1_ := Aside0.mk (Kd.R_lower (Kd.R_new' ho0 (Kd.R_lt (by (with_reducible repeat (first | apply Kd.R_alloc | apply Kd.R_drewN | apply Kd.R_drew)); exact HO234.out))) (below_size (by repeat (first | (with_reducible first | exact HB.out | apply below_alloc | apply pw_below_drewN | apply below_drew1) | exact HB.out)))); have n2_ := Aside0.mk (below_step (by repeat (first | (with_reducible first | exact HB.out | apply below_alloc | apply pw_below_drewN | apply below_drew1) | exact HB.out)) hb); clear HO234; clear HB; have HO234 := n0_; have HO238 := n1_; have HB := n2_; clear n0_ n1_ n2_; (try clear hb); (try clear hb2); (try clear hk); (try clear hi); (try clear ho0))); go_upto_region 6 with (first | (go_at_call 6; (with_reducible refine (laws_big.calls _ _ l0 _ _ l1 false _ ?side1 ?side2 ?side3 ?side4 A3.out).mono ?_); (case side1 => repeat (first | exact HR0.out | (with_reducible refine Kd.C_alloc ?_ _) | (with_reducible refine Kd.C_drewN ?_ _) | (with_reducible refine Kd.C_drew ?_))); (case side2 => exact HC0.out); (case side3 => repeat (first | exact HR1.out | (with_reducible refine Kd.C_alloc ?_ _) | (with_reducible refine Kd.C_drewN ?_ _) | (with_reducible refine Kd.C_drew ?_))); (case side4 => exact HC1.out); rintro e w' ⟨rfl, ⟨nd, rfl⟩⟩; (try first | exact ⟨rfl, _, World.drewN_drewN _ _ _⟩ | exact ⟨rfl, _, Eq.trans (World.drewN_drewN _ _ _) (congrArg (World.drewN _) (Nat.add_assoc _ _ _))⟩)) | (go_at_call 7; (with_reducible refine (spec_DrawFirstRowMap.calls _ _ l0 t228 t229 t230 _ ?side1 ?side2 A5.out).mono ?_); (case side1 => repeat (first | exact HR0.out | (with_reducible refine Kd.C_alloc ?_ _) | (with_reducible refine Kd.C_drewN ?_ _) | (with_reducible refine Kd.C_drew ?_))); (case side2 => exact HC0.out); rintro e w9 ⟨rfl, hb⟩; have n0_ := Aside0.mk (below_step (by repeat (first | (with_reducible first | exact HB.out | apply below_alloc | apply pw_below_drewN | apply below_drew1) | exact HB.out)) hb); clear HB; have HB := n0_; clear n0_; (try clear hb); (try clear hb2); (try clear hk); (try clear hi)) | (go_at_call 8; (with_reducible refine (impl_FirstRowMap.calls k t228 t229 t230 t231 t232 _ A6.out).mono ?_); rintro e w10 ⟨v233, rfl, ho0, hb⟩; have n0_ := Aside0.mk (Kd.R_lower ho0 (below_size (by repeat (first | (with_reducible first | exact HB.out | apply below_alloc | apply pw_below_drewN | apply below_drew1) | exact HB.out)))); have n1_ := Aside0.mk (below_step (by repeat (first | (with_reducible first | exact HB.out | apply below_alloc | apply pw_below_drewN | apply below_drew1) | exact HB.out)) hb); clear HB; have HO234 := n0_; have HB := n1_; clear n0_ n1_; (try clear hb); (try clear hb2); (try clear hk); (try clear hi); (try clear ho0)) | (go_at_call 9; (with_reducible refine (spec_FirstRowMap.calls k t228 t229 t230 t235 t236 _ A7.out).mono ?_); rintro e w11 ⟨v237, rfl, ho0, hb⟩; have n0_ := Aside0.mk (Kd.R_elder' (by (with_reducible repeat (first | apply Kd.R_alloc | apply Kd.R_drewN | apply Kd.R_drew)); exact HO234.out) (Kd.R_base ho0) hb); have n1_ := Aside0.mk (Kd.R_lower (Kd.R_new' ho0 (Kd.R_lt (by (with_reducible repeat (first | apply Kd.R_alloc | apply Kd.R_drewN | apply Kd.R_drew)); exact HO234.out))) (below_size (by repeat (first | (with_reducible first | exact HB.out | apply below_alloc | apply pw_below_drewN | apply below_drew1) | exact HB.out)))); have n2_ := Aside0.mk (below_step (by repeat (first | (with_reducible first | exact HB.out | apply below_alloc | apply pw_below_drewN | apply below_drew1) | exact HB.out)) hb); clear HO234; clear HB; have HO234 := n0_; have HO238 := n1_; have HB := n2_; clear n0_ n1_ n2_; (try clear hb); (try clear hb2); (try clear hk); (try clear hi); (try clear ho0))))
    (try simp only [Act.put, List.setIfInBounds_toArray, List.set_cons_zero, List.set_cons_succ])
    go_cut [63] (fun v63 wc => ∃ (kq : Nat) (x63_7 : Bool), v63 = .bool x63_7 ∧ Aside0 (laws_FnFirstRowsAreLinear.j0 kq l0 l1 t228 t229 t230 t231 t232 x63_7 = some r) ∧ Aside0 (kq ≤ k) ∧ Aside0 (Kd.R (Kd.int .i64) 3 wc w.heap.size (fun _ => True) v233 t231) ∧ Aside0 (Below w.heap.size w wc))
    case first =>
      have H := HC8.out
      clear HC8
      by_cases c12 : (t232 != t236) = true
      · rw [if_pos c12] at H
        have c12b0 : (t232 != t236) = true := c12
        (try (have c12b1 : decide (t232 = t236) = false := by simpa using c12))
        (try (have c12b2 : (t232 == t236) = false := by simpa using c12))
        (try (have c12b3 : ¬ (t232 = t236) := by simpa using c12))
        clear c12
        (first | rw [c12b0] | (simp only [i64_w, i32_w]; rw [c12b0]) | skip)
        have H' := Aside0.mk H
        clear H
        go_wp2
        repeat (go_quiet (fail); try go_wp2)
        go_meet
        case rel => exact ⟨_, (true), (by first | rfl | (simp; done) | (simp [*]; done)), H', ⟨by first | omega | exact Nat.le_refl _⟩, ⟨by (with_reducible repeat (first | apply Kd.R_alloc | apply Kd.R_drewN | apply Kd.R_drew)); exact Kd.R_mono HO234.out (fun _ hk => trivial)⟩, ⟨by repeat (first | (with_reducible first | exact HB.out | apply below_alloc | apply pw_below_drewN | apply below_drew1) | exact HB.out)⟩⟩
      · rw [if_neg c12] at H
        have c12b0 : (t232 != t236) = false := by simpa using c12
        (try (have c12b1 : decide (t232 = t236) = true := by simpa using c12))
        (try (have c12b2 : (t232 == t236) = true := by simpa using c12))
        clear c12
        (first | rw [c12b0] | (simp only [i64_w, i32_w]; rw [c12b0]) | skip)
        replace H := Option.bind_eq_some_iff.mp H
        obtain ⟨t239, A130, H⟩ := H
        replace H : (laws_FnFirstRowsAreLinear.j0 k l0 l1 t228 t229 t230 t231 t232 (!t239)) = some r := H
        have A13 := Aside0.mk A130
        clear A130
        have H' := Aside0.mk H
        clear H
        obtain ⟨Ao14, co14, eo14⟩ := Kd.R_slice HO234.out
        subst eo14
        obtain ⟨Ao15, co15, eo15⟩ := Kd.R_slice HO238.out
        subst eo15
        go_wp2_with (first | (go_at_call 10; (with_reducible refine (laws_hSame.calls k _ _ t231 _ _ t235 t239 _ ?side1 ?side2 ?side3 ?side4 A13.out).mono ?_); (case side1 => repeat (first | exact (Kd.R_reads' HO234.out).2.2 | (with_reducible refine Kd.C_alloc ?_ _) | (with_reducible refine Kd.C_drewN ?_ _) | (with_reducible refine Kd.C_drew ?_))); (case side2 => exact (Kd.R_reads' HO234.out).2.1); (case side3 => repeat (first | exact (Kd.R_reads' HO238.out).2.2 | (with_reducible refine Kd.C_alloc ?_ _) | (with_reducible refine Kd.C_drewN ?_ _) | (with_reducible refine Kd.C_drew ?_))); (case side4 => exact (Kd.R_reads' HO238.out).2.1); rintro e w' ⟨rfl, ⟨nd, rfl⟩⟩; (try first | exact ⟨rfl, _, World.drewN_drewN _ _ _⟩ | exact ⟨rfl, _, Eq.trans (World.drewN_drewN _ _ _) (congrArg (World.drewN _) (Nat.add_assoc _ _ _))⟩)))
        repeat (go_quiet (first | (go_at_call 10; (with_reducible refine (laws_hSame.calls k _ _ t231 _ _ t235 t239 _ ?side1 ?side2 ?side3 ?side4 A13.out).mono ?_); (case side1 => repeat (first | exact (Kd.R_reads' HO234.out).2.2 | (with_reducible refine Kd.C_alloc ?_ _) | (with_reducible refine Kd.C_drewN ?_ _) | (with_reducible refine Kd.C_drew ?_))); (case side2 => exact (Kd.R_reads' HO234.out).2.1); (case side3 => repeat (first | exact (Kd.R_reads' HO238.out).2.2 | (with_reducible refine Kd.C_alloc ?_ _) | (with_reducible refine Kd.C_drewN ?_ _) | (with_reducible refine Kd.C_drew ?_))); (case side4 => exact (Kd.R_reads' HO238.out).2.1); rintro e w' ⟨rfl, ⟨nd, rfl⟩⟩; (try first | exact ⟨rfl, _, World.drewN_drewN _ _ _⟩ | exact ⟨rfl, _, Eq.trans (World.drewN_drewN _ _ _) (congrArg (World.drewN _) (Nat.add_assoc _ _ _))⟩))); try go_wp2_with (first | (go_at_call 10; (with_reducible refine (laws_hSame.calls k _ _ t231 _ _ t235 t239 _ ?side1 ?side2 ?side3 ?side4 A13.out).mono ?_); (case side1 => repeat (first | exact (Kd.R_reads' HO234.out).2.2 | (with_reducible refine Kd.C_alloc ?_ _) | (with_reducible refine Kd.C_drewN ?_ _) | (with_reducible refine Kd.C_drew ?_))); (case side2 => exact (Kd.R_reads' HO234.out).2.1); (case side3 => repeat (first | exact (Kd.R_reads' HO238.out).2.2 | (with_reducible refine Kd.C_alloc ?_ _) | (with_reducible refine Kd.C_drewN ?_ _) | (with_reducible refine Kd.C_drew ?_))); (case side4 => exact (Kd.R_reads' HO238.out).2.1); rintro e w' ⟨rfl, ⟨nd, rfl⟩⟩; (try first | exact ⟨rfl, _, World.drewN_drewN _ _ _⟩ | exact ⟨rfl, _, Eq.trans (World.drewN_drewN _ _ _) (congrArg (World.drewN _) (Nat.add_assoc _ _ _))⟩))))
        go_meet
        case rel => exact ⟨_, (!t239), (by first | rfl | (simp; done) | (simp [*]; done)), H', ⟨by first | omega | exact Nat.le_refl _⟩, ⟨by (with_reducible repeat (first | apply Kd.R_alloc | apply Kd.R_drewN | apply Kd.R_drew)); exact Kd.R_mono HO234.out (fun _ hk => trivial)⟩, ⟨by repeat (first | (with_reducible first | exact HB.out | apply below_alloc | apply pw_below_drewN | apply below_drew1) | exact HB.out)⟩⟩
    case rest =>
      clear HC8
      try clear c1
      try clear p2
      try clear c3
      try clear c4
      try clear c12
      try clear c12b0
      try clear c12b1
      try clear c12b2
      obtain ⟨kq, x63_7, rfl, HA, HJ7, HO_8, HB⟩ := hcut
      cases kq with
      | zero => exact absurd HA.out (by simp [laws_FnFirstRowsAreLinear.j0])
      | succ kj7 =>
        have H := HA.out
        clear HA
        simp only [laws_FnFirstRowsAreLinear.j0] at H
        by_cases c16 : x63_7 = true
        · subst c16
          have H1 : (some false) = some r := by rw [if_pos rfl] at H; exact H
          clear H
          have H := H1
          clear H1
          obtain rfl := Option.some.inj H
          go_wp2
          repeat (go_quiet (fail); try go_wp2)
          go_ret
          exact ⟨by first | rfl | (simp [errW_none, errW_some] <;> rfl) | (simp [*, errW_none, errW_some] <;> rfl), by repeat (first | (with_reducible first | exact HB.out | apply below_alloc | apply pw_below_drewN | apply below_drew1) | exact HB.out)⟩
        · replace c16 := Bool.eq_false_iff.mpr c16
          subst c16
          have H1 : (if t232 = true then (if 0 ≤ t229 then (if (shl .i64 1 t229) = 0 then (none) else (laws_FnFirstRowsAreLinear.l0 kj7 l1 t228 t229 t230 (Go.bits .xor .i64 (Int.tmod (wrap64 ((l0.length : Int) * 37)) (shl .i64 1 t229)) ((l1.length : Int) % (shl .i64 1 t229))) 0 t231 (t231.length : Int) 0)) else (none)) else (laws_FnFirstRowsAreLinear.j2 kj7 l1)) = some r := by rw [if_neg (show ¬ (false = true) by decide)] at H; exact H
          clear H
          have H := H1
          clear H1
          have HC17 := Aside0.mk H
          clear H
          go_upto_if 64 with (fail)
          repeat (go_quiet (fail); go_upto_if 64 with (fail))
          go_cut [] (fun wc => ∃ (kq : Nat), Aside0 (laws_FnFirstRowsAreLinear.j2 kq l1 = some r) ∧ Aside0 (kq ≤ kj7) ∧ Aside0 (Below w.heap.size w wc))
          case first =>
            have H := HC17.out
            clear HC17
            by_cases c18 : t232 = true
            · subst c18
              have H1 : (if 0 ≤ t229 then (if (shl .i64 1 t229) = 0 then (none) else (laws_FnFirstRowsAreLinear.l0 kj7 l1 t228 t229 t230 (Go.bits .xor .i64 (Int.tmod (wrap64 ((l0.length : Int) * 37)) (shl .i64 1 t229)) ((l1.length : Int) % (shl .i64 1 t229))) 0 t231 (t231.length : Int) 0)) else (none)) = some r := by rw [if_pos rfl] at H; exact H
              clear H
              have H := H1
              clear H1
              by_cases c19 : 0 ≤ t229
              · rw [if_pos c19] at H
                have c19b0 := eq_true c19
                have c19b1 : decide (0 ≤ t229) = true := decide_eq_true c19
                clear c19
                obtain ⟨ji20, hji20⟩ : ∃ j_ : Int, (shl .i64 1 t229) = j_ := ⟨_, rfl⟩
                replace H : (if (ji20) = 0 then (none) else (laws_FnFirstRowsAreLinear.l0 kj7 l1 t228 t229 t230 (Go.bits .xor .i64 (Int.tmod (wrap64 ((l0.length : Int) * 37)) (ji20)) ((l1.length : Int) % (ji20))) 0 t231 (t231.length : Int) 0)) = some r := by first | (rw [hji20] at H; exact H) | (simp only [hji20] at H ⊢; exact H)
                have hji20_ : (IntKind.i64.wrap (1 * 2 ^ min t229.toNat 64)) = ji20 := hji20
                have hji20z : t229 ≤ 64 → (IntKind.i64.wrap (1 * 2 ^ t229.toNat)) = ji20 := shl_small hji20
                have hji20u : (IntKind.i64.wrap (2 ^ min t229.toNat 64)) = ji20 := by have h_ := hji20_; rw [Int.one_mul] at h_; exact h_
                have hji20v : t229 ≤ 64 → (IntKind.i64.wrap (2 ^ t229.toNat)) = ji20 := fun hle_ => by have h_ := hji20z hle_; rw [Int.one_mul] at h_; exact h_
                have hji20y : (wrap64 (1 * 2 ^ min t229.toNat 64)) = ji20 := (i64_w _).symm.trans hji20_
                have hji20x : t229 ≤ 64 → (wrap64 (1 * 2 ^ t229.toNat)) = ji20 := fun h_ => (i64_w _).symm.trans (hji20z h_)
                by_cases c21 : (ji20) = 0
                · rw [if_pos c21] at H
                  exact absurd H (by simp)
                · rw [if_neg c21] at H
                  have c21b0 : ((ji20) == 0) = false := beq_eq_false_iff_ne.mpr c21
                  have c21b1 : ((ji20) != 0) = true := bne_iff_ne.mpr c21
                  (first | rw [c21b0] | (simp only [i64_w, i32_w]; rw [c21b0]) | skip)
                  have c22b0 := eq_true (of_decide_eq_true (by first | (with_reducible assumption) | assumption) : 0 ≤ t229)
                  have H' := Aside0.mk H
                  clear H
                  obtain ⟨Ao24, co24, eo24⟩ := Kd.R_slice HO_8.out
                  subst eo24
                  go_wp2
                  repeat (go_quiet (fail); try go_wp2)
                  go_loopg [13, 79] kj7 (fun kq v13 v79 w' => ∃ (x13_2 : Int) (x79_2 : Int), v13 = .int .i64 x13_2 ∧ v79 = .int .i64 x79_2 ∧ Aside0 (laws_FnFirstRowsAreLinear.l0 kq l1 t228 t229 t230 (Go.bits .xor .i64 (Int.tmod (wrap64 ((l0.length : Int) * 37)) (ji20)) ((l1.length : Int) % (ji20))) x13_2 t231 (t231.length : Int) x79_2 = some r) ∧ Aside0 (kq ≤ kj7) ∧ Aside0 (Kd.R (Kd.int .i64) 3 w' w.heap.size (fun _ => True) (.slice Ao24 t231.length co24) t231) ∧ Aside0 (Below w.heap.size w w'))
                  case atStart => exact ⟨(0), (0), (by first | rfl | (simp; done) | (simp [*]; done)), (by first | rfl | (simp; done) | (simp [*]; done)), H', ⟨Nat.le_refl _⟩, ⟨by (with_reducible repeat (first | apply Kd.R_alloc | apply Kd.R_drewN | apply Kd.R_drew)); exact HO_8.out⟩, ⟨by repeat (first | (with_reducible first | exact HB.out | apply below_alloc | apply pw_below_drewN | apply below_drew1) | exact HB.out)⟩⟩
                  case round =>
                    clear H'
                    try clear c1
                    try clear c2
                    try clear p2
                    try clear c3
                    try clear c4
                    try clear p6
                    try clear c12
                    try clear c12b0
                    try clear c12b1
                    try clear c12b2
                    try clear c16
                    try clear c18
                    try clear c19
                    try clear c19b0
                    try clear c19b1
                    try clear c21
                    try clear c21b0
                    try clear c21b1
                    try clear c22
                    try clear c22b0
                    try clear c23
                    try clear c23b0
                    try clear p2
                    obtain ⟨x13_2, x79_2, rfl, rfl, HA, HK2, HO_77, HB⟩ := hrel
                    cases gk with
                    | zero => exact absurd HA.out (by simp [laws_FnFirstRowsAreLinear.l0])
                    | succ k2 =>
                      have H := HA.out
                      clear HA
                      simp only [laws_FnFirstRowsAreLinear.l0] at H
                      by_cases c25 : x79_2 < (t231.length : Int)
                      · rw [if_pos c25] at H
                        have c25b0 : decide (x79_2 < (t231.length : Int)) = true := decide_eq_true c25
                        clear c25
                        by_cases c26 : 0 ≤ x79_2
                        · rw [if_pos c26] at H
                          have c26b0 : decide (0 ≤ x79_2) = true := decide_eq_true c26
                          clear c26
                          by_cases c27 : x79_2 < (t231.length : Int)
                          · rw [if_pos c27] at H
                            have c27b0 : decide (x79_2 < (t231.length : Int)) = true := decide_eq_true c27
                            clear c27
                            have c28b0 := eq_true (of_decide_eq_true (by first | (with_reducible assumption) | assumption) : 0 ≤ x79_2)
                            obtain ⟨ji29, hji29⟩ : ∃ j_ : Int, (shr .i64 (Go.bits .xor .i64 (Int.tmod (wrap64 ((l0.length : Int) * 37)) (ji20)) ((l1.length : Int) % (ji20))) x79_2) = j_ := ⟨_, rfl⟩
                            replace H : (if (Int.tmod (ji29) 2) = 1 then (laws_FnFirstRowsAreLinear.l0 k2 l1 t228 t229 t230 (Go.bits .xor .i64 (Int.tmod (wrap64 ((l0.length : Int) * 37)) (ji20)) ((l1.length : Int) % (ji20))) (Go.bits .xor .i64 x13_2 (rd t231 x79_2)) t231 (t231.length : Int) (wrap64 (x79_2 + 1))) else (laws_FnFirstRowsAreLinear.l0 k2 l1 t228 t229 t230 (Go.bits .xor .i64 (Int.tmod (wrap64 ((l0.length : Int) * 37)) (ji20)) ((l1.length : Int) % (ji20))) x13_2 t231 (t231.length : Int) (wrap64 (x79_2 + 1)))) = some r := by first | (rw [hji29] at H; exact H) | (simp only [hji29] at H ⊢; exact H)
                            have hji29_ : ((Go.bits .xor .i64 (Int.tmod (wrap64 ((l0.length : Int) * 37)) (ji20)) ((l1.length : Int) % (ji20))) / 2 ^ min x79_2.toNat 64) = ji29 := hji29
                            have hji29z : x79_2 ≤ 64 → ((Go.bits .xor .i64 (Int.tmod (wrap64 ((l0.length : Int) * 37)) (ji20)) ((l1.length : Int) % (ji20))) / 2 ^ x79_2.toNat) = ji29 := shr_small hji29
                            by_cases c30 : (Int.tmod (ji29) 2) = 1
                            · rw [if_pos c30] at H
                              have c30b0 : ((Int.tmod (ji29) 2) == 1) = true := beq_iff_eq.mpr c30
                              have c30b1 : ((Int.tmod (ji29) 2) != 1) = false := bne_eq_false_iff_eq.mpr c30
                              clear c30
                              have H' := Aside0.mk H
                              clear H
                              have p240 : 0 ≤ (x79_2 : Int) := of_decide_eq_true (by first | (with_reducible assumption) | assumption)
                              have q240 : x79_2 < (t231.length : Int) := of_decide_eq_true (by first | (with_reducible assumption) | assumption)
                              obtain ⟨ad240, e240, hx240_0⟩ := Kd.at_int (Kd.R_reads' HO_77.out).2.2 x79_2 p240 q240
                              cases e240
                              replace p240 := eq_true p240
                              replace q240 := eq_true q240
                              go_wp2
                              repeat (go_quiet (fail); try go_wp2)
                              go_roundg k2
                              case measure => have := HJ7.out; have := HK2.out; omega
                              case rel => exact ⟨(Go.bits .xor .i64 x13_2 (rd t231 x79_2)), (wrap64 (x79_2 + 1)), (by first | rfl | (simp; done) | (simp [*]; done)), (by first | rfl | (simp; done) | (simp [*]; done)), H', ⟨by have := HJ7.out; have := HK2.out; omega⟩, ⟨by (with_reducible repeat (first | apply Kd.R_alloc | apply Kd.R_drewN | apply Kd.R_drew)); exact HO_77.out⟩, ⟨by repeat (first | (with_reducible first | exact HB.out | apply below_alloc | apply pw_below_drewN | apply below_drew1) | exact HB.out)⟩⟩
                            · rw [if_neg c30] at H
                              have c30b0 : ((Int.tmod (ji29) 2) == 1) = false := beq_eq_false_iff_ne.mpr c30
                              have c30b1 : ((Int.tmod (ji29) 2) != 1) = true := bne_iff_ne.mpr c30
                              have H' := Aside0.mk H
                              clear H
                              have p240 : 0 ≤ (x79_2 : Int) := of_decide_eq_true (by first | (with_reducible assumption) | assumption)
                              have q240 : x79_2 < (t231.length : Int) := of_decide_eq_true (by first | (with_reducible assumption) | assumption)
                              obtain ⟨ad240, e240, hx240_0⟩ := Kd.at_int (Kd.R_reads' HO_77.out).2.2 x79_2 p240 q240
                              cases e240
                              replace p240 := eq_true p240
                              replace q240 := eq_true q240
                              go_wp2
                              repeat (go_quiet (fail); try go_wp2)
                              go_roundg k2
                              case measure => have := HJ7.out; have := HK2.out; omega
                              case rel => exact ⟨(x13_2), (wrap64 (x79_2 + 1)), (by first | rfl | (simp; done) | (simp [*]; done)), (by first | rfl | (simp; done) | (simp [*]; done)), H', ⟨by have := HJ7.out; have := HK2.out; omega⟩, ⟨by (with_reducible repeat (first | apply Kd.R_alloc | apply Kd.R_drewN | apply Kd.R_drew)); exact HO_77.out⟩, ⟨by repeat (first | (with_reducible first | exact HB.out | apply below_alloc | apply pw_below_drewN | apply below_drew1) | exact HB.out)⟩⟩
                          · rw [if_neg c27] at H
                            exact absurd H (by simp)
                        · rw [if_neg c26] at H
                          exact absurd H (by simp)
                      · rw [if_neg c25] at H
                        have c25b0 : decide (x79_2 < (t231.length : Int)) = false := decide_eq_false c25
                        clear c25
                        replace H := Option.bind_eq_some_iff.mp H
                        obtain ⟨⟨t241, t242⟩, A310, H⟩ := H
                        replace H : (if t242 = true then (if t241 = x13_2 then (laws_FnFirstRowsAreLinear.j2 k2 l1) else (some false)) else (some false)) = some r := H
                        have A31 := Aside0.mk A310
                        clear A310
                        by_cases c32 : t242 = true
                        · subst c32
                          have H1 : (if t241 = x13_2 then (laws_FnFirstRowsAreLinear.j2 k2 l1) else (some false)) = some r := by rw [if_pos rfl] at H; exact H
                          clear H
                          have H := H1
                          clear H1
                          by_cases c33 : t241 = x13_2
                          · rw [if_pos c33] at H
                            have c33b0 : (t241 == x13_2) = true := beq_iff_eq.mpr c33
                            have c33b1 : (t241 != x13_2) = false := bne_eq_false_iff_eq.mpr c33
                            clear c33
                            have H' := Aside0.mk H
                            clear H
                            go_wp2_with (first | (go_at_call 11; (with_reducible refine (impl_ChaseLeft.calls k2 t228 t229 t230 0 (Go.bits .xor .i64 (Int.tmod (wrap64 ((l0.length : Int) * 37)) (ji20)) ((l1.length : Int) % (ji20))) t241 true _ A31.out).mono ?_); rintro e w34 ⟨rfl, hb⟩; have n0_ := Aside0.mk (Kd.R_below (by (with_reducible repeat (first | apply Kd.R_alloc | apply Kd.R_drewN | apply Kd.R_drew)); exact HO_77.out) hb); have n1_ := Aside0.mk (below_step (by repeat (first | (with_reducible first | exact HB.out | apply below_alloc | apply pw_below_drewN | apply below_drew1) | exact HB.out)) hb); clear HO_77; clear HB; have HO_77 := n0_; have HB := n1_; clear n0_ n1_; (try clear hb); (try clear hb2); (try clear hk); (try clear hi)))
                            repeat (go_quiet (first | (go_at_call 11; (with_reducible refine (impl_ChaseLeft.calls k2 t228 t229 t230 0 (Go.bits .xor .i64 (Int.tmod (wrap64 ((l0.length : Int) * 37)) (ji20)) ((l1.length : Int) % (ji20))) t241 true _ A31.out).mono ?_); rintro e w34 ⟨rfl, hb⟩; have n0_ := Aside0.mk (Kd.R_below (by (with_reducible repeat (first | apply Kd.R_alloc | apply Kd.R_drewN | apply Kd.R_drew)); exact HO_77.out) hb); have n1_ := Aside0.mk (below_step (by repeat (first | (with_reducible first | exact HB.out | apply below_alloc | apply pw_below_drewN | apply below_drew1) | exact HB.out)) hb); clear HO_77; clear HB; have HO_77 := n0_; have HB := n1_; clear n0_ n1_; (try clear hb); (try clear hb2); (try clear hk); (try clear hi))); try go_wp2_with (first | (go_at_call 11; (with_reducible refine (impl_ChaseLeft.calls k2 t228 t229 t230 0 (Go.bits .xor .i64 (Int.tmod (wrap64 ((l0.length : Int) * 37)) (ji20)) ((l1.length : Int) % (ji20))) t241 true _ A31.out).mono ?_); rintro e w34 ⟨rfl, hb⟩; have n0_ := Aside0.mk (Kd.R_below (by (with_reducible repeat (first | apply Kd.R_alloc | apply Kd.R_drewN | apply Kd.R_drew)); exact HO_77.out) hb); have n1_ := Aside0.mk (below_step (by repeat (first | (with_reducible first | exact HB.out | apply below_alloc | apply pw_below_drewN | apply below_drew1) | exact HB.out)) hb); clear HO_77; clear HB; have HO_77 := n0_; have HB := n1_; clear n0_ n1_; (try clear hb); (try clear hb2); (try clear hk); (try clear hi))))
                            go_meet
                            case rel => exact ⟨_, H', ⟨by have := HJ7.out; have := HK2.out; first | omega | exact Nat.le_refl _⟩, ⟨by repeat (first | (with_reducible first | exact HB.out | apply below_alloc | apply pw_below_drewN | apply below_drew1) | exact HB.out)⟩⟩
                          · rw [if_neg c33] at H
                            have c33b0 : (t241 == x13_2) = false := beq_eq_false_iff_ne.mpr c33
                            have c33b1 : (t241 != x13_2) = true := bne_iff_ne.mpr c33
                            obtain rfl := Option.some.inj H
                            go_wp2_with (first | (go_at_call 11; (with_reducible refine (impl_ChaseLeft.calls k2 t228 t229 t230 0 (Go.bits .xor .i64 (Int.tmod (wrap64 ((l0.length : Int) * 37)) (ji20)) ((l1.length : Int) % (ji20))) t241 true _ A31.out).mono ?_); rintro e w35 ⟨rfl, hb⟩; have n0_ := Aside0.mk (Kd.R_below (by (with_reducible repeat (first | apply Kd.R_alloc | apply Kd.R_drewN | apply Kd.R_drew)); exact HO_77.out) hb); have n1_ := Aside0.mk (below_step (by repeat (first | (with_reducible first | exact HB.out | apply below_alloc | apply pw_below_drewN | apply below_drew1) | exact HB.out)) hb); clear HO_77; clear HB; have HO_77 := n0_; have HB := n1_; clear n0_ n1_; (try clear hb); (try clear hb2); (try clear hk); (try clear hi)))
                            repeat (go_quiet (first | (go_at_call 11; (with_reducible refine (impl_ChaseLeft.calls k2 t228 t229 t230 0 (Go.bits .xor .i64 (Int.tmod (wrap64 ((l0.length : Int) * 37)) (ji20)) ((l1.length : Int) % (ji20))) t241 true _ A31.out).mono ?_); rintro e w35 ⟨rfl, hb⟩; have n0_ := Aside0.mk (Kd.R_below (by (with_reducible repeat (first | apply Kd.R_alloc | apply Kd.R_drewN | apply Kd.R_drew)); exact HO_77.out) hb); have n1_ := Aside0.mk (below_step (by repeat (first | (with_reducible first | exact HB.out | apply below_alloc | apply pw_below_drewN | apply below_drew1) | exact HB.out)) hb); clear HO_77; clear HB; have HO_77 := n0_; have HB := n1_; clear n0_ n1_; (try clear hb); (try clear hb2); (try clear hk); (try clear hi))); try go_wp2_with (first | (go_at_call 11; (with_reducible refine (impl_ChaseLeft.calls k2 t228 t229 t230 0 (Go.bits .xor .i64 (Int.tmod (wrap64 ((l0.length : Int) * 37)) (ji20)) ((l1.length : Int) % (ji20))) t241 true _ A31.out).mono ?_); rintro e w35 ⟨rfl, hb⟩; have n0_ := Aside0.mk (Kd.R_below (by (with_reducible repeat (first | apply Kd.R_alloc | apply Kd.R_drewN | apply Kd.R_drew)); exact HO_77.out) hb); have n1_ := Aside0.mk (below_step (by repeat (first | (with_reducible first | exact HB.out | apply below_alloc | apply pw_below_drewN | apply below_drew1) | exact HB.out)) hb); clear HO_77; clear HB; have HO_77 := n0_; have HB := n1_; clear n0_ n1_; (try clear hb); (try clear hb2); (try clear hk); (try clear hi))))
                            go_ret
                            exact ⟨by first | rfl | (simp [errW_none, errW_some] <;> rfl) | (simp only [← hji20]; first | rfl | (simp [errW_none, errW_some] <;> rfl)) | (simp [*, errW_none, errW_some] <;> rfl), by repeat (first | (with_reducible first | exact HB.out | apply below_alloc | apply pw_below_drewN | apply below_drew1) | exact HB.out)⟩
                        · replace c32 := Bool.eq_false_iff.mpr c32
                          subst c32
                          have H1 : (some false) = some r := by rw [if_neg (show ¬ (false = true) by decide)] at H; exact H
                          clear H
                          have H := H1
                          clear H1
                          obtain rfl := Option.some.inj H
                          go_wp2_with (first | (go_at_call 11; (with_reducible refine (impl_ChaseLeft.calls k2 t228 t229 t230 0 (Go.bits .xor .i64 (Int.tmod (wrap64 ((l0.length : Int) * 37)) (ji20)) ((l1.length : Int) % (ji20))) t241 false _ A31.out).mono ?_); rintro e w36 ⟨rfl, hb⟩; have n0_ := Aside0.mk (Kd.R_below (by (with_reducible repeat (first | apply Kd.R_alloc | apply Kd.R_drewN | apply Kd.R_drew)); exact HO_77.out) hb); have n1_ := Aside0.mk (below_step (by repeat (first | (with_reducible first | exact HB.out | apply below_alloc | apply pw_below_drewN | apply below_drew1) | exact HB.out)) hb); clear HO_77; clear HB; have HO_77 := n0_; have HB := n1_; clear n0_ n1_; (try clear hb); (try clear hb2); (try clear hk); (try clear hi)))
                          repeat (go_quiet (first | (go_at_call 11; (with_reducible refine (impl_ChaseLeft.calls k2 t228 t229 t230 0 (Go.bits .xor .i64 (Int.tmod (wrap64 ((l0.length : Int) * 37)) (ji20)) ((l1.length : Int) % (ji20))) t241 false _ A31.out).mono ?_); rintro e w36 ⟨rfl, hb⟩; have n0_ := Aside0.mk (Kd.R_below (by (with_reducible repeat (first | apply Kd.R_alloc | apply Kd.R_drewN | apply Kd.R_drew)); exact HO_77.out) hb); have n1_ := Aside0.mk (below_step (by repeat (first | (with_reducible first | exact HB.out | apply below_alloc | apply pw_below_drewN | apply below_drew1) | exact HB.out)) hb); clear HO_77; clear HB; have HO_77 := n0_; have HB := n1_; clear n0_ n1_; (try clear hb); (try clear hb2); (try clear hk); (try clear hi))); try go_wp2_with (first | (go_at_call 11; (with_reducible refine (impl_ChaseLeft.calls k2 t228 t229 t230 0 (Go.bits .xor .i64 (Int.tmod (wrap64 ((l0.length : Int) * 37)) (ji20)) ((l1.length : Int) % (ji20))) t241 false _ A31.out).mono ?_); rintro e w36 ⟨rfl, hb⟩; have n0_ := Aside0.mk (Kd.R_below (by (with_reducible repeat (first | apply Kd.R_alloc | apply Kd.R_drewN | apply Kd.R_drew)); exact HO_77.out) hb); have n1_ := Aside0.mk (below_step (by repeat (first | (with_reducible first | exact HB.out | apply below_alloc | apply pw_below_drewN | apply below_drew1) | exact HB.out)) hb); clear HO_77; clear HB; have HO_77 := n0_; have HB := n1_; clear n0_ n1_; (try clear hb); (try clear hb2); (try clear hk); (try clear hi))))
                          go_ret
                          exact ⟨by first | rfl | (simp [errW_none, errW_some] <;> rfl) | (simp only [← hji20]; first | rfl | (simp [errW_none, errW_some] <;> rfl)) | (simp [*, errW_none, errW_some] <;> rfl), by repeat (first | (with_reducible first | exact HB.out | apply below_alloc | apply pw_below_drewN | apply below_drew1) | exact HB.out)⟩
              · rw [if_neg c19] at H
                exact absurd H (by simp)
            · replace c18 := Bool.eq_false_iff.mpr c18
              subst c18
              have H1 : (laws_FnFirstRowsAreLinear.j2 kj7 l1) = some r := by rw [if_neg (show ¬ (false = true) by decide)] at H; exact H
              clear H
              have H := H1
              clear H1
              have H' := Aside0.mk H
              clear H
              go_wp2
              repeat (go_quiet (fail); try go_wp2)
              go_meet
              case rel => exact ⟨_, H', ⟨by have := HJ7.out; first | omega | exact Nat.le_refl _⟩, ⟨by repeat (first | (with_reducible first | exact HB.out | apply below_alloc | apply pw_below_drewN | apply below_drew1) | exact HB.out)⟩⟩
          case rest =>
            clear HC17
            try clear c1
            try clear c2
            try clear p2
            try clear q2
            try clear hx2
            try clear c3
            try clear c4
            try clear p6
            try clear c12
            try clear c12b0
            try clear c12b1
            try clear c12b2
            try clear c16
            try clear c18
            try clear c19
            try clear c19b0
            try clear c19b1
            try clear c21
            try clear c21b0
            try clear c21b1
            try clear c22
            try clear c22b0
            try clear c23
            try clear c23b0
            try clear p24
            try clear q24
            try clear hx24
            try clear c25
            try clear c25b0
            try clear c26
            try clear c26b0
            try clear c27
            try clear c27b0
            try clear c28
            try clear c28b0
            try clear c30
            try clear c30b0
            try clear c30b1
            try clear c32
            try clear c33
            try clear c33b0
            try clear c33b1
            try clear hx240_0
            try clear p2
            try clear p240
            try clear p6
            try clear q240
            obtain ⟨kq, HA, HJ16, HB⟩ := hcut
            cases kq with
            | zero => exact absurd HA.out (by simp [laws_FnFirstRowsAreLinear.j2])
            | succ kj16 =>
              have H := HA.out
              clear HA
              simp only [laws_FnFirstRowsAreLinear.j2] at H
              replace H := Option.bind_eq_some_iff.mp H
              obtain ⟨⟨t243, t244, t245⟩, A370, H⟩ := H
              replace H : ((impl_LastRowTable.f kj16 t243 t244 t245).bind fun bt246 => ((spec_LastRowTable.f kj16 t243 t244 t245).bind fun bt250 => (if (bt246.2 != bt250.2) = true then (laws_FnFirstRowsAreLinear.j3 kj16 t243 t244 t245 bt246.1 bt246.2 true) else ((laws_hSame.f kj16 bt246.1 bt250.1).bind fun t254 => (laws_FnFirstRowsAreLinear.j3 kj16 t243 t244 t245 bt246.1 bt246.2 (!t254)))))) = some r := H
              have A37 := Aside0.mk A370
              clear A370
              replace H := Option.bind_eq_some_iff.mp H
              obtain ⟨⟨t246, t247⟩, A380, H⟩ := H
              replace H : ((spec_LastRowTable.f kj16 t243 t244 t245).bind fun bt250 => (if (t247 != bt250.2) = true then (laws_FnFirstRowsAreLinear.j3 kj16 t243 t244 t245 t246 t247 true) else ((laws_hSame.f kj16 t246 bt250.1).bind fun t254 => (laws_FnFirstRowsAreLinear.j3 kj16 t243 t244 t245 t246 t247 (!t254))))) = some r := H
              have A38 := Aside0.mk A380
              clear A380
              replace H := Option.bind_eq_some_iff.mp H
              obtain ⟨⟨t250, t251⟩, A390, H⟩ := H
              replace H : (if (t247 != t251) = true then (laws_FnFirstRowsAreLinear.j3 kj16 t243 t244 t245 t246 t247 true) else ((laws_hSame.f kj16 t246 t250).bind fun t254 => (laws_FnFirstRowsAreLinear.j3 kj16 t243 t244 t245 t246 t247 (!t254)))) = some r := H
              have A39 := Aside0.mk A390
              clear A390
              have HC40 := Aside0.mk H
              clear H
              go_upto_region 23 with (first | (go_at_call 12; (with_reducible refine (spec_DrawLastRowTable.calls _ _ l1 t243 t244 t245 _ ?side1 ?side2 A37.out).mono ?_); (case side1 => repeat (first | exact (Kd.C_below HR1.out HB.out) | (with_reducible refine Kd.C_alloc ?_ _) | (with_reducible refine Kd.C_drewN ?_ _) | (with_reducible refine Kd.C_drew ?_))); (case side2 => exact HC1.out); rintro e w41 ⟨rfl, hb⟩; have n0_ := Aside0.mk (below_step (by repeat (first | (with_reducible first | exact HB.out | apply below_alloc | apply pw_below_drewN | apply below_drew1) | exact HB.out)) hb); clear HB; have HB := n0_; clear n0_; (try clear hb); (try clear hb2); (try clear hk); (try clear hi)) | (go_at_call 13; (with_reducible refine (impl_LastRowTable.calls kj16 t243 t244 t245 t246 t247 _ A38.out).mono ?_); rintro e w42 ⟨v248, rfl, ho0, hb⟩; have n0_ := Aside0.mk (Kd.R_lower ho0 (below_size (by repeat (first | (with_reducible first | exact HB.out | apply below_alloc | apply pw_below_drewN | apply below_drew1) | exact HB.out)))); have n1_ := Aside0.mk (below_step (by repeat (first | (with_reducible first | exact HB.out | apply below_alloc | apply pw_below_drewN | apply below_drew1) | exact HB.out)) hb); clear HB; have HO249 := n0_; have HB := n1_; clear n0_ n1_; (try clear hb); (try clear hb2); (try clear hk); (try clear hi); (try clear ho0)) | (go_at_call 14; (with_reducible refine (spec_LastRowTable.calls kj16 t243 t244 t245 t250 t251 _ A39.out).mono ?_); rintro e w43 ⟨v252, rfl, ho0, hb⟩; have n0_ := Aside0.mk (Kd.R_elder' (by (with_reducible repeat (first | apply Kd.R_alloc | apply Kd.R_drewN | apply Kd.R_drew)); exact HO249.out) (Kd.R_base ho0) hb); have n1_ := Aside0.mk (Kd.R_lower (Kd.R_new' ho0 (Kd.R_lt (by (with_reducible repeat (first | apply Kd.R_alloc | apply Kd.R_drewN | apply Kd.R_drew)); exact HO249.out))) (below_size (by repeat (first | (with_reducible first | exact HB.out | apply below_alloc | apply pw_below_drewN | apply below_drew1) | exact HB.out)))); have n2_ := Aside0.mk (below_step (by repeat (first | (with_reducible first | exact HB.out | apply below_alloc | apply pw_below_drewN | apply below_drew1) | exact HB.out)) hb); clear HO249; clear HB; have HO249 := n0_; have HO253 := n1_; have HB := n2_; clear n0_ n1_ n2_; (try clear hb); (try clear hb2); (try clear hk); (try clear hi); (try clear ho0)))
              repeat (go_quiet (first | (go_at_call 12; (with_reducible refine (spec_DrawLastRowTable.calls _ _ l1 t243 t244 t245 _ ?side1 ?side2 A37.out).mono ?_); (case side1 => repeat (first | exact (Kd.C_below HR1.out HB.out) | (with_reducible refine Kd.C_alloc ?_ _) | (with_reducible refine Kd.C_drewN ?_ _) | (with_reducible refine Kd.C_drew ?_))); (case side2 => exact HC1.out); rintro e w41 ⟨rfl, hb⟩; have n0_ := Aside0.mk (below_step (by repeat (first | (with_reducible first | exact HB.out | apply below_alloc | apply pw_below_drewN | apply below_drew1) | exact HB.out)) hb); clear HB; have HB := n0_; clear n0_; (try clear hb); (try clear hb2); (try clear hk); (try clear hi)) | (go_at_call 13; (with_reducible refine (impl_LastRowTable.calls kj16 t243 t244 t245 t246 t247 _ A38.out).mono ?_); rintro e w42 ⟨v248, rfl, ho0, hb⟩; have n0_ := Aside0.mk (Kd.R_lower ho0 (below_size (by repeat (first | (with_reducible first | exact HB.out | apply below_alloc | apply pw_below_drewN | apply below_drew1) | exact HB.out)))); have n1_ := Aside0.mk (below_step (by repeat (first | (with_reducible first | exact HB.out | apply below_alloc | apply pw_below_drewN | apply below_drew1) | exact HB.out)) hb); clear HB; have HO249 := n0_; have HB := n1_; clear n0_ n1_; (try clear hb); (try clear hb2); (try clear hk); (try clear hi); (try clear ho0)) | (go_at_call 14; (with_reducible refine (spec_LastRowTable.calls kj16 t243 t244 t245 t250 t251 _ A39.out).mono ?_); rintro e w43 ⟨v252, rfl, ho0, hb⟩; have n0_ := Aside0.mk (Kd.R_elder' (by (with_reducible repeat (first | apply Kd.R_alloc | apply Kd.R_drewN | apply Kd.R_drew)); exact HO249.out) (Kd.R_base ho0) hb); have n1_ := Aside0.mk (Kd.R_lower (Kd.R_new' ho0 (Kd.R_lt (by (with_reducible repeat (first | apply Kd.R_alloc | apply Kd.R_drewN | apply Kd.R_drew)); exact HO249.out))) (below_size (by repeat (first | (with_reducible first | exact HB.out | apply below_alloc | apply pw_below_drewN | apply below_drew1) | exact HB.out)))); have n2_ := Aside0.mk (below_step (by repeat (first | (with_reducible first | exact HB.out | apply below_alloc | apply pw_below_drewN | apply below_drew1) | exact HB.out)) hb); clear HO249; clear HB; have HO249 := n0_; have HO253 := n1_; have HB := n2_; clear n0_ n1_ n2_; (try clear hb); (try clear hb2); (try clear hk); (try clear hi); (try clear ho0))); go_upto_region 23 with (first | (go_at_call 12; (with_reducible refine (spec_DrawLastRowTable.calls _ _ l1 t243 t244 t245 _ ?side1 ?side2 A37.out).mono ?_); (case side1 => repeat (first | exact (Kd.C_below HR1.out HB.out) | (with_reducible refine Kd.C_alloc ?_ _) | (with_reducible refine Kd.C_drewN ?_ _) | (with_reducible refine Kd.C_drew ?_))); (case side2 => exact HC1.out); rintro e w41 ⟨rfl, hb⟩; have n0_ := Aside0.mk (below_step (by repeat (first | (with_reducible first | exact HB.out | apply below_alloc | apply pw_below_drewN | apply below_drew1) | exact HB.out)) hb); clear HB; have HB := n0_; clear n0_; (try clear hb); (try clear hb2); (try clear hk); (try clear hi)) | (go_at_call 13; (with_reducible refine (impl_LastRowTable.calls kj16 t243 t244 t245 t246 t247 _ A38.out).mono ?_); rintro e w42 ⟨v248, rfl, ho0, hb⟩; have n0_ := Aside0.mk (Kd.R_lower ho0 (below_size (by repeat (first | (with_reducible first | exact HB.out | apply below_alloc | apply pw_below_drewN | apply below_drew1) | exact HB.out)))); have n1_ := Aside0.mk (below_step (by repeat (first | (with_reducible first | exact HB.out | apply below_alloc | apply pw_below_drewN | apply below_drew1) | exact HB.out)) hb); clear HB; have HO249 := n0_; have HB := n1_; clear n0_ n1_; (try clear hb); (try clear hb2); (try clear hk); (try clear hi); (try clear ho0)) | (go_at_call 14; (with_reducible refine (spec_LastRowTable.calls kj16 t243 t244 t245 t250 t251 _ A39.out).mono ?_); rintro e w43 ⟨v252, rfl, ho0, hb⟩; have n0_ := Aside0.mk (Kd.R_elder' (by (with_reducible repeat (first | apply Kd.R_alloc | apply Kd.R_drewN | apply Kd.R_drew)); exact HO249.out) (Kd.R_base ho0) hb); have n1_ := Aside0.mk (Kd.R_lower (Kd.R_new' ho0 (Kd.R_lt (by (with_reducible repeat (first | apply Kd.R_alloc | apply Kd.R_drewN | apply Kd.R_drew)); exact HO249.out))) (below_size (by repeat (first | (with_reducible first | exact HB.out | apply below_alloc | apply pw_below_drewN | apply below_drew1) | exact HB.out)))); have n2_ := Aside0.mk (below_step (by repeat (first | (with_reducible first | exact HB.out | apply below_alloc | apply pw_below_drewN | apply below_drew1) | exact HB.out)) hb); clear HO249; clear HB; have HO249 := n0_; have HO253 := n1_; have HB := n2_; clear n0_ n1_ n2_; (try clear hb); (try clear hb2); (try clear hk); (try clear hi); (try clear ho0))))
              (try simp only [Act.put, List.setIfInBounds_toArray, List.set_cons_zero, List.set_cons_succ])
              go_cut [136] (fun v136 wc => ∃ (kq : Nat) (x136_39 : Bool), v136 = .bool x136_39 ∧ Aside0 (laws_FnFirstRowsAreLinear.j3 kq t243 t244 t245 t246 t247 x136_39 = some r) ∧ Aside0 (kq ≤ kj16) ∧ Aside0 (Kd.R (Kd.int .i64) 3 wc w.heap.size (fun _ => True) v248 t246) ∧ Aside0 (Below w.heap.size w wc))
              case first =>
                have H := HC40.out
                clear HC40
                by_cases c44 : (t247 != t251) = true
                · rw [if_pos c44] at H
                  have c44b0 : (t247 != t251) = true := c44
                  (try (have c44b1 : decide (t247 = t251) = false := by simpa using c44))
                  (try (have c44b2 : (t247 == t251) = false := by simpa using c44))
                  (try (have c44b3 : ¬ (t247 = t251) := by simpa using c44))
                  clear c44
                  (first | rw [c44b0] | (simp only [i64_w, i32_w]; rw [c44b0]) | skip)
                  have H' := Aside0.mk H
                  clear H
                  go_wp2
                  repeat (go_quiet (fail); try go_wp2)
                  go_meet
                  case rel => exact ⟨_, (true), (by first | rfl | (simp; done) | (simp [*]; done)), H', ⟨by have := HJ7.out; have := HJ16.out; first | omega | exact Nat.le_refl _⟩, ⟨by (with_reducible repeat (first | apply Kd.R_alloc | apply Kd.R_drewN | apply Kd.R_drew)); exact Kd.R_mono HO249.out (fun _ hk => trivial)⟩, ⟨by repeat (first | (with_reducible first | exact HB.out | apply below_alloc | apply pw_below_drewN | apply below_drew1) | exact HB.out)⟩⟩
                · rw [if_neg c44] at H
                  have c44b0 : (t247 != t251) = false := by simpa using c44
                  (try (have c44b1 : decide (t247 = t251) = true := by simpa using c44))
                  (try (have c44b2 : (t247 == t251) = true := by simpa using c44))
                  clear c44
                  (first | rw [c44b0] | (simp only [i64_w, i32_w]; rw [c44b0]) | skip)
                  replace H := Option.bind_eq_some_iff.mp H
                  obtain ⟨t254, A450, H⟩ := H
                  replace H : (laws_FnFirstRowsAreLinear.j3 kj16 t243 t244 t245 t246 t247 (!t254)) = some r := H
                  have A45 := Aside0.mk A450
                  clear A450
                  have H' := Aside0.mk H
                  clear H
                  obtain ⟨Ao46, co46, eo46⟩ := Kd.R_slice HO249.out
                  subst eo46
                  obtain ⟨Ao47, co47, eo47⟩ := Kd.R_slice HO253.out
                  subst eo47
                  go_wp2_with (first | (go_at_call 10; (with_reducible refine (laws_hSame.calls kj16 _ _ t246 _ _ t250 t254 _ ?side1 ?side2 ?side3 ?side4 A45.out).mono ?_); (case side1 => repeat (first | exact (Kd.R_reads' HO249.out).2.2 | (with_reducible refine Kd.C_alloc ?_ _) | (with_reducible refine Kd.C_drewN ?_ _) | (with_reducible refine Kd.C_drew ?_))); (case side2 => exact (Kd.R_reads' HO249.out).2.1); (case side3 => repeat (first | exact (Kd.R_reads' HO253.out).2.2 | (with_reducible refine Kd.C_alloc ?_ _) | (with_reducible refine Kd.C_drewN ?_ _) | (with_reducible refine Kd.C_drew ?_))); (case side4 => exact (Kd.R_reads' HO253.out).2.1); rintro e w' ⟨rfl, ⟨nd, rfl⟩⟩; (try first | exact ⟨rfl, _, World.drewN_drewN _ _ _⟩ | exact ⟨rfl, _, Eq.trans (World.drewN_drewN _ _ _) (congrArg (World.drewN _) (Nat.add_assoc _ _ _))⟩)))
                  repeat (go_quiet (first | (go_at_call 10; (with_reducible refine (laws_hSame.calls kj16 _ _ t246 _ _ t250 t254 _ ?side1 ?side2 ?side3 ?side4 A45.out).mono ?_); (case side1 => repeat (first | exact (Kd.R_reads' HO249.out).2.2 | (with_reducible refine Kd.C_alloc ?_ _) | (with_reducible refine Kd.C_drewN ?_ _) | (with_reducible refine Kd.C_drew ?_))); (case side2 => exact (Kd.R_reads' HO249.out).2.1); (case side3 => repeat (first | exact (Kd.R_reads' HO253.out).2.2 | (with_reducible refine Kd.C_alloc ?_ _) | (with_reducible refine Kd.C_drewN ?_ _) | (with_reducible refine Kd.C_drew ?_))); (case side4 => exact (Kd.R_reads' HO253.out).2.1); rintro e w' ⟨rfl, ⟨nd, rfl⟩⟩; (try first | exact ⟨rfl, _, World.drewN_drewN _ _ _⟩ | exact ⟨rfl, _, Eq.trans (World.drewN_drewN _ _ _) (congrArg (World.drewN _) (Nat.add_assoc _ _ _))⟩))); try go_wp2_with (first | (go_at_call 10; (with_reducible refine (laws_hSame.calls kj16 _ _ t246 _ _ t250 t254 _ ?side1 ?side2 ?side3 ?side4 A45.out).mono ?_); (case side1 => repeat (first | exact (Kd.R_reads' HO249.out).2.2 | (with_reducible refine Kd.C_alloc ?_ _) | (with_reducible refine Kd.C_drewN ?_ _) | (with_reducible refine Kd.C_drew ?_))); (case side2 => exact (Kd.R_reads' HO249.out).2.1); (case side3 => repeat (first | exact (Kd.R_reads' HO253.out).2.2 | (with_reducible refine Kd.C_alloc ?_ _) | (with_reducible refine Kd.C_drewN ?_ _) | (with_reducible refine Kd.C_drew ?_))); (case side4 => exact (Kd.R_reads' HO253.out).2.1); rintro e w' ⟨rfl, ⟨nd, rfl⟩⟩; (try first | exact ⟨rfl, _, World.drewN_drewN _ _ _⟩ | exact ⟨rfl, _, Eq.trans (World.drewN_drewN _ _ _) (congrArg (World.drewN _) (Nat.add_assoc _ _ _))⟩))))
                  go_meet
                  case rel => exact ⟨_, (!t254), (by first | rfl | (simp; done) | (simp [*]; done)), H', ⟨by have := HJ7.out; have := HJ16.out; first | omega | exact Nat.le_refl _⟩, ⟨by (with_reducible repeat (first | apply Kd.R_alloc | apply Kd.R_drewN | apply Kd.R_drew)); exact Kd.R_mono HO249.out (fun _ hk => trivial)⟩, ⟨by repeat (first | (with_reducible first | exact HB.out | apply below_alloc | apply pw_below_drewN | apply below_drew1) | exact HB.out)⟩⟩
              case rest =>
                clear HC40
                try clear c1
                try clear c2
                try clear p2
                try clear q2
                try clear hx2
                try clear c3
                try clear c4
                try clear p6
                try clear c12
                try clear c12b0
                try clear c12b1
                try clear c12b2
                try clear c16
                try clear c18
                try clear c19
                try clear c19b0
                try clear c19b1
                try clear c21
                try clear c21b0
                try clear c21b1
                try clear c22
                try clear c22b0
                try clear c23
                try clear c23b0
                try clear p24
                try clear q24
                try clear hx24
                try clear c25
                try clear c25b0
                try clear c26
                try clear c26b0
                try clear c27
                try clear c27b0
                try clear c28
                try clear c28b0
                try clear c30
                try clear c30b0
                try clear c30b1
                try clear c32
                try clear c33
                try clear c33b0
                try clear c33b1
                try clear c44
                try clear c44b0
                try clear c44b1
                try clear c44b2
                try clear hx240_0
                try clear p2
                try clear p24
                try clear p240
                try clear p6
                try clear q2
                try clear q24
                try clear q240
                obtain ⟨kq, x136_39, rfl, HA, HJ39, HO_21, HB⟩ := hcut
                cases kq with
                | zero => exact absurd HA.out (by simp [laws_FnFirstRowsAreLinear.j3])
                | succ kj39 =>
                  have H := HA.out
                  clear HA
                  simp only [laws_FnFirstRowsAreLinear.j3] at H
                  by_cases c48 : x136_39 = true
                  · subst c48
                    have H1 : (some false) = some r := by rw [if_pos rfl] at H; exact H
                    clear H
                    have H := H1
                    clear H1
                    obtain rfl := Option.some.inj H
                    go_wp2
                    repeat (go_quiet (fail); try go_wp2)
                    go_ret
                    exact ⟨by first | rfl | (simp [errW_none, errW_some] <;> rfl) | (simp [*, errW_none, errW_some] <;> rfl), by repeat (first | (with_reducible first | exact HB.out | apply below_alloc | apply pw_below_drewN | apply below_drew1) | exact HB.out)⟩
                  · replace c48 := Bool.eq_false_iff.mpr c48
                    subst c48
                    have H1 : (if t247 = true then (laws_FnFirstRowsAreLinear.l1 kj39 t243 t244 t245 0 t246 (t246.length : Int) 0) else (some true)) = some r := by rw [if_neg (show ¬ (false = true) by decide)] at H; exact H
                    clear H
                    have H := H1
                    clear H1
                    by_cases c49 : t247 = true
                    · subst c49
                      have H1 : (laws_FnFirstRowsAreLinear.l1 kj39 t243 t244 t245 0 t246 (t246.length : Int) 0) = some r := by rw [if_pos rfl] at H; exact H
                      clear H
                      have H := H1
                      clear H1
                      have H' := Aside0.mk H
                      clear H
                      obtain ⟨Ao50, co50, eo50⟩ := Kd.R_slice HO_21.out
                      subst eo50
                      go_wp2
                      repeat (go_quiet (fail); try go_wp2)
                      go_loopg [25, 140] kj39 (fun kq v25 v140 w' => ∃ (x25_4 : Int) (x140_4 : Int), v25 = .int .i64 x25_4 ∧ v140 = .int .i64 x140_4 ∧ Aside0 (laws_FnFirstRowsAreLinear.l1 kq t243 t244 t245 x25_4 t246 (t246.length : Int) x140_4 = some r) ∧ Aside0 (kq ≤ kj39) ∧ Aside0 (Kd.R (Kd.int .i64) 3 w' w.heap.size (fun _ => True) (.slice Ao50 t246.length co50) t246) ∧ Aside0 (Below w.heap.size w w'))
                      case atStart => exact ⟨(0), (0), (by first | rfl | (simp; done) | (simp [*]; done)), (by first | rfl | (simp; done) | (simp [*]; done)), H', ⟨Nat.le_refl _⟩, ⟨by (with_reducible repeat (first | apply Kd.R_alloc | apply Kd.R_drewN | apply Kd.R_drew)); exact HO_21.out⟩, ⟨by repeat (first | (with_reducible first | exact HB.out | apply below_alloc | apply pw_below_drewN | apply below_drew1) | exact HB.out)⟩⟩
                      case round =>
                        clear H'
                        try clear c1
                        try clear c2
                        try clear p2
                        try clear q2
                        try clear hx2
                        try clear c3
                        try clear c4
                        try clear p6
                        try clear c12
                        try clear c12b0
                        try clear c12b1
                        try clear c12b2
                        try clear c16
                        try clear c18
                        try clear c19
                        try clear c19b0
                        try clear c19b1
                        try clear c21
                        try clear c21b0
                        try clear c21b1
                        try clear c22
                        try clear c22b0
                        try clear c23
                        try clear c23b0
                        try clear p24
                        try clear q24
                        try clear hx24
                        try clear c25
                        try clear c25b0
                        try clear c26
                        try clear c26b0
                        try clear c27
                        try clear c27b0
                        try clear c28
                        try clear c28b0
                        try clear c30
                        try clear c30b0
                        try clear c30b1
                        try clear c32
                        try clear c33
                        try clear c33b0
                        try clear c33b1
                        try clear c44
                        try clear c44b0
                        try clear c44b1
                        try clear c44b2
                        try clear c48
                        try clear c49
                        try clear hx240_0
                        try clear p2
                        try clear p24
                        try clear p240
                        try clear p6
                        try clear q2
                        try clear q24
                        try clear q240
                        obtain ⟨x25_4, x140_4, rfl, rfl, HA, HK4, HO_138, HB⟩ := hrel
                        cases gk with
                        | zero => exact absurd HA.out (by simp [laws_FnFirstRowsAreLinear.l1])
                        | succ k4 =>
                          have H := HA.out
                          clear HA
                          simp only [laws_FnFirstRowsAreLinear.l1] at H
                          by_cases c51 : x140_4 < (t246.length : Int)
                          · rw [if_pos c51] at H
                            have c51b0 : decide (x140_4 < (t246.length : Int)) = true := decide_eq_true c51
                            clear c51
                            by_cases c52 : 0 ≤ x140_4
                            · rw [if_pos c52] at H
                              have c52b0 : decide (0 ≤ x140_4) = true := decide_eq_true c52
                              clear c52
                              by_cases c53 : x140_4 < (t246.length : Int)
                              · rw [if_pos c53] at H
                                have c53b0 : decide (x140_4 < (t246.length : Int)) = true := decide_eq_true c53
                                clear c53
                                by_cases c54 : (rd t246 x140_4) < 0
                                · rw [if_pos c54] at H
                                  have c54b0 : decide ((rd t246 x140_4) < 0) = true := decide_eq_true c54
                                  clear c54
                                  have H' := Aside0.mk H
                                  clear H
                                  have p257 : 0 ≤ (x140_4 : Int) := of_decide_eq_true (by first | (with_reducible assumption) | assumption)
                                  have q257 : x140_4 < (t246.length : Int) := of_decide_eq_true (by first | (with_reducible assumption) | assumption)
                                  obtain ⟨ad257, e257, hx257_0⟩ := Kd.at_int (Kd.R_reads' HO_138.out).2.2 x140_4 p257 q257
                                  cases e257
                                  replace p257 := eq_true p257
                                  replace q257 := eq_true q257
                                  go_wp2
                                  repeat (go_quiet (fail); try go_wp2)
                                  go_roundg k4
                                  case measure => have := HJ7.out; have := HJ16.out; have := HJ39.out; have := HK4.out; omega
                                  case rel => exact ⟨(x25_4), (wrap64 (x140_4 + 1)), (by first | rfl | (simp; done) | (simp [*]; done)), (by first | rfl | (simp; done) | (simp [*]; done)), H', ⟨by have := HJ7.out; have := HJ16.out; have := HJ39.out; have := HK4.out; omega⟩, ⟨by (with_reducible repeat (first | apply Kd.R_alloc | apply Kd.R_drewN | apply Kd.R_drew)); exact HO_138.out⟩, ⟨by repeat (first | (with_reducible first | exact HB.out | apply below_alloc | apply pw_below_drewN | apply below_drew1) | exact HB.out)⟩⟩
                                · rw [if_neg c54] at H
                                  have c54b0 : decide ((rd t246 x140_4) < 0) = false := decide_eq_false c54
                                  clear c54
                                  obtain ⟨ji55, hji55⟩ : ∃ j_ : Int, (wrap64 (t244 * (wrap64 (t243 - 1)))) = j_ := ⟨_, rfl⟩
                                  replace H : (if 0 ≤ (ji55) then ((impl_ChaseLeft.f k4 t243 t244 t245 (shl .i64 x140_4 (ji55)) (rd t246 x140_4)).bind fun bt258 => (if bt258.2 = true then (if bt258.1 = 0 then (laws_FnFirstRowsAreLinear.l1 k4 t243 t244 t245 (wrap64 (x25_4 + 1)) t246 (t246.length : Int) (wrap64 (x140_4 + 1))) else (some false)) else (some false))) else (none)) = some r := by first | (rw [hji55] at H; exact H) | (simp only [hji55] at H ⊢; exact H)
                                  have hji55w : (IntKind.i64.wrap (t244 * (wrap64 (t243 - 1)))) = ji55 := (i64_w _).trans hji55
                                  by_cases c56 : 0 ≤ (ji55)
                                  · rw [if_pos c56] at H
                                    have c56b0 := eq_true c56
                                    have c56b1 : decide (0 ≤ (ji55)) = true := decide_eq_true c56
                                    clear c56
                                    obtain ⟨ji57, hji57⟩ : ∃ j_ : Int, (shl .i64 x140_4 (ji55)) = j_ := ⟨_, rfl⟩
                                    replace H : ((impl_ChaseLeft.f k4 t243 t244 t245 (ji57) (rd t246 x140_4)).bind fun bt258 => (if bt258.2 = true then (if bt258.1 = 0 then (laws_FnFirstRowsAreLinear.l1 k4 t243 t244 t245 (wrap64 (x25_4 + 1)) t246 (t246.length : Int) (wrap64 (x140_4 + 1))) else (some false)) else (some false))) = some r := by first | (rw [hji57] at H; exact H) | (simp only [hji57] at H ⊢; exact H)
                                    have hji57_ : (IntKind.i64.wrap (x140_4 * 2 ^ min (ji55).toNat 64)) = ji57 := hji57
                                    have hji57z : (ji55) ≤ 64 → (IntKind.i64.wrap (x140_4 * 2 ^ (ji55).toNat)) = ji57 := shl_small hji57
                                    have hji57y : (wrap64 (x140_4 * 2 ^ min (ji55).toNat 64)) = ji57 := (i64_w _).symm.trans hji57_
                                    have hji57x : (ji55) ≤ 64 → (wrap64 (x140_4 * 2 ^ (ji55).toNat)) = ji57 := fun h_ => (i64_w _).symm.trans (hji57z h_)
                                    replace H := Option.bind_eq_some_iff.mp H
                                    obtain ⟨⟨t258, t259⟩, A580, H⟩ := H
                                    replace H : (if t259 = true then (if t258 = 0 then (laws_FnFirstRowsAreLinear.l1 k4 t243 t244 t245 (wrap64 (x25_4 + 1)) t246 (t246.length : Int) (wrap64 (x140_4 + 1))) else (some false)) else (some false)) = some r := H
                                    have A58 := Aside0.mk A580
                                    clear A580
                                    by_cases c59 : t259 = true
                                    · subst c59
                                      have H1 : (if t258 = 0 then (laws_FnFirstRowsAreLinear.l1 k4 t243 t244 t245 (wrap64 (x25_4 + 1)) t246 (t246.length : Int) (wrap64 (x140_4 + 1))) else (some false)) = some r := by rw [if_pos rfl] at H; exact H
                                      clear H
                                      have H := H1
                                      clear H1
                                      by_cases c60 : t258 = 0
                                      · rw [if_pos c60] at H
                                        have c60b0 : (t258 == 0) = true := beq_iff_eq.mpr c60
                                        have c60b1 : (t258 != 0) = false := bne_eq_false_iff_eq.mpr c60
                                        clear c60
                                        have H' := Aside0.mk H
                                        clear H
                                        have p257 : 0 ≤ (x140_4 : Int) := of_decide_eq_true (by first | (with_reducible assumption) | assumption)
                                        have q257 : x140_4 < (t246.length : Int) := of_decide_eq_true (by first | (with_reducible assumption) | assumption)
                                        obtain ⟨ad257, e257, hx257_0⟩ := Kd.at_int (Kd.R_reads' HO_138.out).2.2 x140_4 p257 q257
                                        cases e257
                                        replace p257 := eq_true p257
                                        replace q257 := eq_true q257
                                        go_wp2_with (first | (go_at_call 11; (with_reducible refine (impl_ChaseLeft.calls k4 t243 t244 t245 ji57 (rd t246 x140_4) t258 true _ A58.out).mono ?_); rintro e w61 ⟨rfl, hb⟩; have n0_ := Aside0.mk (Kd.R_below (by (with_reducible repeat (first | apply Kd.R_alloc | apply Kd.R_drewN | apply Kd.R_drew)); exact HO_138.out) hb); have n1_ := Aside0.mk (below_step (by repeat (first | (with_reducible first | exact HB.out | apply below_alloc | apply pw_below_drewN | apply below_drew1) | exact HB.out)) hb); clear HO_138; clear HB; have HO_138 := n0_; have HB := n1_; clear n0_ n1_; (try clear hb); (try clear hb2); (try clear hk); (try clear hi)))
                                        repeat (go_quiet (first | (go_at_call 11; (with_reducible refine (impl_ChaseLeft.calls k4 t243 t244 t245 ji57 (rd t246 x140_4) t258 true _ A58.out).mono ?_); rintro e w61 ⟨rfl, hb⟩; have n0_ := Aside0.mk (Kd.R_below (by (with_reducible repeat (first | apply Kd.R_alloc | apply Kd.R_drewN | apply Kd.R_drew)); exact HO_138.out) hb); have n1_ := Aside0.mk (below_step (by repeat (first | (with_reducible first | exact HB.out | apply below_alloc | apply pw_below_drewN | apply below_drew1) | exact HB.out)) hb); clear HO_138; clear HB; have HO_138 := n0_; have HB := n1_; clear n0_ n1_; (try clear hb); (try clear hb2); (try clear hk); (try clear hi))); try go_wp2_with (first | (go_at_call 11; (with_reducible refine (impl_ChaseLeft.calls k4 t243 t244 t245 ji57 (rd t246 x140_4) t258 true _ A58.out).mono ?_); rintro e w61 ⟨rfl, hb⟩; have n0_ := Aside0.mk (Kd.R_below (by (with_reducible repeat (first | apply Kd.R_alloc | apply Kd.R_drewN | apply Kd.R_drew)); exact HO_138.out) hb); have n1_ := Aside0.mk (below_step (by repeat (first | (with_reducible first | exact HB.out | apply below_alloc | apply pw_below_drewN | apply below_drew1) | exact HB.out)) hb); clear HO_138; clear HB; have HO_138 := n0_; have HB := n1_; clear n0_ n1_; (try clear hb); (try clear hb2); (try clear hk); (try clear hi))))
                                        go_roundg k4
                                        case measure => have := HJ7.out; have := HJ16.out; have := HJ39.out; have := HK4.out; omega
                                        case rel => exact ⟨(wrap64 (x25_4 + 1)), (wrap64 (x140_4 + 1)), (by first | rfl | (simp; done) | (simp [*]; done)), (by first | rfl | (simp; done) | (simp [*]; done)), H', ⟨by have := HJ7.out; have := HJ16.out; have := HJ39.out; have := HK4.out; omega⟩, ⟨by (with_reducible repeat (first | apply Kd.R_alloc | apply Kd.R_drewN | apply Kd.R_drew)); exact HO_138.out⟩, ⟨by repeat (first | (with_reducible first | exact HB.out | apply below_alloc | apply pw_below_drewN | apply below_drew1) | exact HB.out)⟩⟩
                                      · rw [if_neg c60] at H
                                        have c60b0 : (t258 == 0) = false := beq_eq_false_iff_ne.mpr c60
                                        have c60b1 : (t258 != 0) = true := bne_iff_ne.mpr c60
                                        obtain rfl := Option.some.inj H
                                        have p257 : 0 ≤ (x140_4 : Int) := of_decide_eq_true (by first | (with_reducible assumption) | assumption)
                                        have q257 : x140_4 < (t246.length : Int) := of_decide_eq_true (by first | (with_reducible assumption) | assumption)
                                        obtain ⟨ad257, e257, hx257_0⟩ := Kd.at_int (Kd.R_reads' HO_138.out).2.2 x140_4 p257 q257
                                        cases e257
                                        replace p257 := eq_true p257
                                        replace q257 := eq_true q257
                                        go_wp2_with (first | (go_at_call 11; (with_reducible refine (impl_ChaseLeft.calls k4 t243 t244 t245 ji57 (rd t246 x140_4) t258 true _ A58.out).mono ?_); rintro e w62 ⟨rfl, hb⟩; have n0_ := Aside0.mk (Kd.R_below (by (with_reducible repeat (first | apply Kd.R_alloc | apply Kd.R_drewN | apply Kd.R_drew)); exact HO_138.out) hb); have n1_ := Aside0.mk (below_step (by repeat (first | (with_reducible first | exact HB.out | apply below_alloc | apply pw_below_drewN | apply below_drew1) | exact HB.out)) hb); clear HO_138; clear HB; have HO_138 := n0_; have HB := n1_; clear n0_ n1_; (try clear hb); (try clear hb2); (try clear hk); (try clear hi)))
                                        repeat (go_quiet (first | (go_at_call 11; (with_reducible refine (impl_ChaseLeft.calls k4 t243 t244 t245 ji57 (rd t246 x140_4) t258 true _ A58.out).mono ?_); rintro e w62 ⟨rfl, hb⟩; have n0_ := Aside0.mk (Kd.R_below (by (with_reducible repeat (first | apply Kd.R_alloc | apply Kd.R_drewN | apply Kd.R_drew)); exact HO_138.out) hb); have n1_ := Aside0.mk (below_step (by repeat (first | (with_reducible first | exact HB.out | apply below_alloc | apply pw_below_drewN | apply below_drew1) | exact HB.out)) hb); clear HO_138; clear HB; have HO_138 := n0_; have HB := n1_; clear n0_ n1_; (try clear hb); (try clear hb2); (try clear hk); (try clear hi))); try go_wp2_with (first | (go_at_call 11; (with_reducible refine (impl_ChaseLeft.calls k4 t243 t244 t245 ji57 (rd t246 x140_4) t258 true _ A58.out).mono ?_); rintro e w62 ⟨rfl, hb⟩; have n0_ := Aside0.mk (Kd.R_below (by (with_reducible repeat (first | apply Kd.R_alloc | apply Kd.R_drewN | apply Kd.R_drew)); exact HO_138.out) hb); have n1_ := Aside0.mk (below_step (by repeat (first | (with_reducible first | exact HB.out | apply below_alloc | apply pw_below_drewN | apply below_drew1) | exact HB.out)) hb); clear HO_138; clear HB; have HO_138 := n0_; have HB := n1_; clear n0_ n1_; (try clear hb); (try clear hb2); (try clear hk); (try clear hi))))
                                        go_ret
                                        exact ⟨by first | rfl | (simp [errW_none, errW_some] <;> rfl) | (simp only [← hji55, ← hji57]; first | rfl | (simp [errW_none, errW_some] <;> rfl)) | (simp [*, errW_none, errW_some] <;> rfl), by repeat (first | (with_reducible first | exact HB.out | apply below_alloc | apply pw_below_drewN | apply below_drew1) | exact HB.out)⟩
                                    · replace c59 := Bool.eq_false_iff.mpr c59
                                      subst c59
                                      have H1 : (some false) = some r := by rw [if_neg (show ¬ (false = true) by decide)] at H; exact H
                                      clear H
                                      have H := H1
                                      clear H1
                                      obtain rfl := Option.some.inj H
                                      have p257 : 0 ≤ (x140_4 : Int) := of_decide_eq_true (by first | (with_reducible assumption) | assumption)
                                      have q257 : x140_4 < (t246.length : Int) := of_decide_eq_true (by first | (with_reducible assumption) | assumption)
                                      obtain ⟨ad257, e257, hx257_0⟩ := Kd.at_int (Kd.R_reads' HO_138.out).2.2 x140_4 p257 q257
                                      cases e257
                                      replace p257 := eq_true p257
                                      replace q257 := eq_true q257
                                      go_wp2_with (first | (go_at_call 11; (with_reducible refine (impl_ChaseLeft.calls k4 t243 t244 t245 ji57 (rd t246 x140_4) t258 false _ A58.out).mono ?_); rintro e w63 ⟨rfl, hb⟩; have n0_ := Aside0.mk (Kd.R_below (by (with_reducible repeat (first | apply Kd.R_alloc | apply Kd.R_drewN | apply Kd.R_drew)); exact HO_138.out) hb); have n1_ := Aside0.mk (below_step (by repeat (first | (with_reducible first | exact HB.out | apply below_alloc | apply pw_below_drewN | apply below_drew1) | exact HB.out)) hb); clear HO_138; clear HB; have HO_138 := n0_; have HB := n1_; clear n0_ n1_; (try clear hb); (try clear hb2); (try clear hk); (try clear hi)))
                                      repeat (go_quiet (first | (go_at_call 11; (with_reducible refine (impl_ChaseLeft.calls k4 t243 t244 t245 ji57 (rd t246 x140_4) t258 false _ A58.out).mono ?_); rintro e w63 ⟨rfl, hb⟩; have n0_ := Aside0.mk (Kd.R_below (by (with_reducible repeat (first | apply Kd.R_alloc | apply Kd.R_drewN | apply Kd.R_drew)); exact HO_138.out) hb); have n1_ := Aside0.mk (below_step (by repeat (first | (with_reducible first | exact HB.out | apply below_alloc | apply pw_below_drewN | apply below_drew1) | exact HB.out)) hb); clear HO_138; clear HB; have HO_138 := n0_; have HB := n1_; clear n0_ n1_; (try clear hb); (try clear hb2); (try clear hk); (try clear hi))); try go_wp2_with (first | (go_at_call 11; (with_reducible refine (impl_ChaseLeft.calls k4 t243 t244 t245 ji57 (rd t246 x140_4) t258 false _ A58.out).mono ?_); rintro e w63 ⟨rfl, hb⟩; have n0_ := Aside0.mk (Kd.R_below (by (with_reducible repeat (first | apply Kd.R_alloc | apply Kd.R_drewN | apply Kd.R_drew)); exact HO_138.out) hb); have n1_ := Aside0.mk (below_step (by repeat (first | (with_reducible first | exact HB.out | apply below_alloc | apply pw_below_drewN | apply below_drew1) | exact HB.out)) hb); clear HO_138; clear HB; have HO_138 := n0_; have HB := n1_; clear n0_ n1_; (try clear hb); (try clear hb2); (try clear hk); (try clear hi))))
                                      go_ret
                                      exact ⟨by first | rfl | (simp [errW_none, errW_some] <;> rfl) | (simp only [← hji55, ← hji57]; first | rfl | (simp [errW_none, errW_some] <;> rfl)) | (simp [*, errW_none, errW_some] <;> rfl), by repeat (first | (with_reducible first | exact HB.out | apply below_alloc | apply pw_below_drewN | apply below_drew1) | exact HB.out)⟩
                                  · rw [if_neg c56] at H
                                    exact absurd H (by simp)
                              · rw [if_neg c53] at H
                                exact absurd H (by simp)
                            · rw [if_neg c52] at H
                              exact absurd H (by simp)
                          · rw [if_neg c51] at H
                            have c51b0 : decide (x140_4 < (t246.length : Int)) = false := decide_eq_false c51
                            clear c51
                            replace H := Option.bind_eq_some_iff.mp H
                            obtain ⟨⟨t255, t256⟩, A640, H⟩ := H
                            replace H : (if t256 = true then (if 0 ≤ (wrap64 (t244 - t255)) then (some (x25_4 == (shl .i64 1 (wrap64 (t244 - t255))))) else (none)) else (some false)) = some r := H
                            have A64 := Aside0.mk A640
                            clear A640
                            by_cases c65 : t256 = true
                            · subst c65
                              have H1 : (if 0 ≤ (wrap64 (t244 - t255)) then (some (x25_4 == (shl .i64 1 (wrap64 (t244 - t255))))) else (none)) = some r := by rw [if_pos rfl] at H; exact H
                              clear H
                              have H := H1
                              clear H1
                              obtain ⟨ji66, hji66⟩ : ∃ j_ : Int, (wrap64 (t244 - t255)) = j_ := ⟨_, rfl⟩
                              replace H : (if 0 ≤ (ji66) then (some (x25_4 == (shl .i64 1 (ji66)))) else (none)) = some r := by first | (rw [hji66] at H; exact H) | (simp only [hji66] at H ⊢; exact H)
                              (try rw [hji66] at A64)
                              have hji66w : (IntKind.i64.wrap (t244 - t255)) = ji66 := (i64_w _).trans hji66
                              by_cases c67 : 0 ≤ (ji66)
                              · rw [if_pos c67] at H
                                have c67b0 := eq_true c67
                                have c67b1 : decide (0 ≤ (ji66)) = true := decide_eq_true c67
                                clear c67
                                obtain ⟨ji68, hji68⟩ : ∃ j_ : Int, (shl .i64 1 (ji66)) = j_ := ⟨_, rfl⟩
                                replace H : (some (x25_4 == (ji68))) = some r := by first | (rw [hji68] at H; exact H) | (simp only [hji68] at H ⊢; exact H)
                                (try rw [hji68] at A64)
                                have hji68_ : (IntKind.i64.wrap (1 * 2 ^ min (ji66).toNat 64)) = ji68 := hji68
                                have hji68z : (ji66) ≤ 64 → (IntKind.i64.wrap (1 * 2 ^ (ji66).toNat)) = ji68 := shl_small hji68
                                have hji68u : (IntKind.i64.wrap (2 ^ min (ji66).toNat 64)) = ji68 := by have h_ := hji68_; rw [Int.one_mul] at h_; exact h_
                                have hji68v : (ji66) ≤ 64 → (IntKind.i64.wrap (2 ^ (ji66).toNat)) = ji68 := fun hle_ => by have h_ := hji68z hle_; rw [Int.one_mul] at h_; exact h_
                                have hji68y : (wrap64 (1 * 2 ^ min (ji66).toNat 64)) = ji68 := (i64_w _).symm.trans hji68_
                                have hji68x : (ji66) ≤ 64 → (wrap64 (1 * 2 ^ (ji66).toNat)) = ji68 := fun h_ => (i64_w _).symm.trans (hji68z h_)
                                obtain rfl := Option.some.inj H
                                go_wp2_with (first | (go_at_call 15; (with_reducible refine (impl_NullityByRows.calls t243 t244 t245 t255 true _ A64.out).mono ?_); rintro e w69 ⟨rfl, hb⟩; have n0_ := Aside0.mk (Kd.R_below (by (with_reducible repeat (first | apply Kd.R_alloc | apply Kd.R_drewN | apply Kd.R_drew)); exact HO_138.out) hb); have n1_ := Aside0.mk (below_step (by repeat (first | (with_reducible first | exact HB.out | apply below_alloc | apply pw_below_drewN | apply below_drew1) | exact HB.out)) hb); clear HO_138; clear HB; have HO_138 := n0_; have HB := n1_; clear n0_ n1_; (try clear hb); (try clear hb2); (try clear hk); (try clear hi)))
                                repeat (go_quiet (first | (go_at_call 15; (with_reducible refine (impl_NullityByRows.calls t243 t244 t245 t255 true _ A64.out).mono ?_); rintro e w69 ⟨rfl, hb⟩; have n0_ := Aside0.mk (Kd.R_below (by (with_reducible repeat (first | apply Kd.R_alloc | apply Kd.R_drewN | apply Kd.R_drew)); exact HO_138.out) hb); have n1_ := Aside0.mk (below_step (by repeat (first | (with_reducible first | exact HB.out | apply below_alloc | apply pw_below_drewN | apply below_drew1) | exact HB.out)) hb); clear HO_138; clear HB; have HO_138 := n0_; have HB := n1_; clear n0_ n1_; (try clear hb); (try clear hb2); (try clear hk); (try clear hi))); try go_wp2_with (first | (go_at_call 15; (with_reducible refine (impl_NullityByRows.calls t243 t244 t245 t255 true _ A64.out).mono ?_); rintro e w69 ⟨rfl, hb⟩; have n0_ := Aside0.mk (Kd.R_below (by (with_reducible repeat (first | apply Kd.R_alloc | apply Kd.R_drewN | apply Kd.R_drew)); exact HO_138.out) hb); have n1_ := Aside0.mk (below_step (by repeat (first | (with_reducible first | exact HB.out | apply below_alloc | apply pw_below_drewN | apply below_drew1) | exact HB.out)) hb); clear HO_138; clear HB; have HO_138 := n0_; have HB := n1_; clear n0_ n1_; (try clear hb); (try clear hb2); (try clear hk); (try clear hi))))
                                go_ret
                                exact ⟨by first | rfl | (simp [errW_none, errW_some] <;> rfl) | (simp only [← hji66, ← hji68]; first | rfl | (simp [errW_none, errW_some] <;> rfl)) | (simp [*, errW_none, errW_some] <;> rfl), by repeat (first | (with_reducible first | exact HB.out | apply below_alloc | apply pw_below_drewN | apply below_drew1) | exact HB.out)⟩
                              · rw [if_neg c67] at H
                                exact absurd H (by simp)
                            · replace c65 := Bool.eq_false_iff.mpr c65
                              subst c65
                              have H1 : (some false) = some r := by rw [if_neg (show ¬ (false = true) by decide)] at H; exact H
                              clear H
                              have H := H1
                              clear H1
                              obtain rfl := Option.some.inj H
                              go_wp2_with (first | (go_at_call 15; (with_reducible refine (impl_NullityByRows.calls t243 t244 t245 t255 false _ A64.out).mono ?_); rintro e w70 ⟨rfl, hb⟩; have n0_ := Aside0.mk (Kd.R_below (by (with_reducible repeat (first | apply Kd.R_alloc | apply Kd.R_drewN | apply Kd.R_drew)); exact HO_138.out) hb); have n1_ := Aside0.mk (below_step (by repeat (first | (with_reducible first | exact HB.out | apply below_alloc | apply pw_below_drewN | apply below_drew1) | exact HB.out)) hb); clear HO_138; clear HB; have HO_138 := n0_; have HB := n1_; clear n0_ n1_; (try clear hb); (try clear hb2); (try clear hk); (try clear hi)))
                              repeat (go_quiet (first | (go_at_call 15; (with_reducible refine (impl_NullityByRows.calls t243 t244 t245 t255 false _ A64.out).mono ?_); rintro e w70 ⟨rfl, hb⟩; have n0_ := Aside0.mk (Kd.R_below (by (with_reducible repeat (first | apply Kd.R_alloc | apply Kd.R_drewN | apply Kd.R_drew)); exact HO_138.out) hb); have n1_ := Aside0.mk (below_step (by repeat (first | (with_reducible first | exact HB.out | apply below_alloc | apply pw_below_drewN | apply below_drew1) | exact HB.out)) hb); clear HO_138; clear HB; have HO_138 := n0_; have HB := n1_; clear n0_ n1_; (try clear hb); (try clear hb2); (try clear hk); (try clear hi))); try go_wp2_with (first | (go_at_call 15; (with_reducible refine (impl_NullityByRows.calls t243 t244 t245 t255 false _ A64.out).mono ?_); rintro e w70 ⟨rfl, hb⟩; have n0_ := Aside0.mk (Kd.R_below (by (with_reducible repeat (first | apply Kd.R_alloc | apply Kd.R_drewN | apply Kd.R_drew)); exact HO_138.out) hb); have n1_ := Aside0.mk (below_step (by repeat (first | (with_reducible first | exact HB.out | apply below_alloc | apply pw_below_drewN | apply below_drew1) | exact HB.out)) hb); clear HO_138; clear HB; have HO_138 := n0_; have HB := n1_; clear n0_ n1_; (try clear hb); (try clear hb2); (try clear hk); (try clear hi))))
                              go_ret
                              exact ⟨by first | rfl | (simp [errW_none, errW_some] <;> rfl) | (simp [*, errW_none, errW_some] <;> rfl), by repeat (first | (with_reducible first | exact HB.out | apply below_alloc | apply pw_below_drewN | apply below_drew1) | exact HB.out)⟩
                    · replace c49 := Bool.eq_false_iff.mpr c49
                      subst c49
                      have H1 : (some true) = some r := by rw [if_neg (show ¬ (false = true) by decide)] at H; exact H
                      clear H
                      have H := H1
                      clear H1
                      obtain rfl := Option.some.inj H
                      go_wp2
                      repeat (go_quiet (fail); try go_wp2)
                      go_ret
                      exact ⟨by first | rfl | (simp [errW_none, errW_some] <;> rfl) | (simp [*, errW_none, errW_some] <;> rfl), by repeat (first | (with_reducible first | exact HB.out | apply below_alloc | apply pw_below_drewN | apply below_drew1) | exact HB.out)⟩

/-- THE ONE PURE STATEMENT of laws_FnFirstRowsAreLinear: yours. -/
def laws_FnFirstRowsAreLinear.Pure : Prop := ∀ (l0 : List Int) (l1 : List Int), l0.length ≤ maxLen → l0.length * 1 ≤ 140737488351232 → (∀ x ∈ l0, (Lit.int .u8 x).wf = true) → l1.length ≤ maxLen → l1.length * 1 ≤ 140737488351232 → (∀ x ∈ l1, (Lit.int .u8 x).wf = true) → ∃ k, laws_FnFirstRowsAreLinear.f k l0 l1 = some true
theorem laws_FnFirstRowsAreLinear.walk (P : laws_FnFirstRowsAreLinear.Pure) (a0 : Option Addr) (len0 cap0 : Nat) (z0 : List Int) (a1 : Option Addr) (len1 cap1 : Nat) (z1 : List Int) (w : World) (w0 : (a0 = none ∧ len0 = 0 ∧ cap0 = 0 ∧ z0 = []) ∨ ∃ x, a0 = some x ∧ len0 ≤ cap0 ∧ cap0 ≤ maxLen ∧ z0.length = cap0 ∧ (∀ i, i < z0.length → w.cell? (x.add i) = some (.int .u8 (z0.getD i 0))) ∧ ∀ n ∈ z0, (Lit.int .u8 n).wf = true) (y0 : len0 * 1 ≤ 140737488351232) (w1 : (a1 = none ∧ len1 = 0 ∧ cap1 = 0 ∧ z1 = []) ∨ ∃ x, a1 = some x ∧ len1 ≤ cap1 ∧ cap1 ≤ maxLen ∧ z1.length = cap1 ∧ (∀ i, i < z1.length → w.cell? (x.add i) = some (.int .u8 (z1.getD i 0))) ∧ ∀ n ∈ z1, (Lit.int .u8 n).wf = true) (y1 : len1 * 1 ≤ 140737488351232) :
    Calls Try.prog 3 #[.slice a0 len0 cap0, .slice a1 len1 cap1] w fun e w' => e = .returned (.bool true) ∧ Below w.heap.size w w' := by
  obtain ⟨l0, rfl, hr0, hm0, hw0, hc0⟩ := ReadsInt.ofRowC w0
  obtain ⟨l1, rfl, hr1, hm1, hw1, hc1⟩ := ReadsInt.ofRowC w1
  obtain ⟨k, h⟩ := P l0 l1 hm0 y0 hw0 hm1 y1 hw1
  refine (laws_FnFirstRowsAreLinear.calls k _ _ l0 _ _ l1 true w (Kd.C_of_reads (d := (0 : Int)) (h1 := fun _ => rfl) hr0) hc0 (Kd.C_of_reads (d := (0 : Int)) (h1 := fun _ => rfl) hr1) hc1 h).mono ?_
  rintro e w' ⟨rfl, hd⟩
  exact ⟨rfl, hd⟩

end Go.Proofs.Ytgnjndkbccakgaa.PFnFirstRowsAreLinear
