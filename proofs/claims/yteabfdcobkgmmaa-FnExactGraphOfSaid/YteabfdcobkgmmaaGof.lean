/- The law of GraphOf, walked along the one path that it takes. -/
import Derived.Test.YteabfdcobkgmmaaMgFnExactGraphOf
import Derived.Test.YteabfdcobkgmmaaMgeFnExactGraphOf
import Derived.Test.YteabfdcobkgmmaaLemFnExactGraphOf
namespace Go.Proofs.Yteabfdcobkgmmaa.Gof
open Go.RowKit Go.Proofs.Yteabfdcobkgmmaa.PFnExactGraphOf Go.Proofs.YteabfdcobkgmmaaW.PrintWords Go.Proofs.YteabfdcobkgmmaaW.PrintLast Go.Proofs.YteabfdcobkgmmaaW.PrintMore Go.Proofs.Yteabfdcobkgmmaa.Mw Go.Proofs.Yteabfdcobkgmmaa.MgFnExactGraphOf Go.Proofs.Yteabfdcobkgmmaa.MgeFnExactGraphOf Go.Proofs.Yteabfdcobkgmmaa.LemFnExactGraphOf
set_option linter.unusedSimpArgs false
set_option linter.unusedVariables false
section
variable {w W : World} {cs : List Bk} {rs : List It}
theorem szSS {A : Option Addr} {c : Nat} {l : List (List Int)} {t r : Int} (k : Nat) (hC : ks.C w A l.length l) (hc : l.length ≤ c) (h : laws_szIntSS.f k l t = some r) (hM : M w cs rs W) :
    Calls Try.prog 14 #[.slice A l.length c, .int .i64 t] W fun e w' => e = .returned (.int .i64 r) ∧ M w cs rs w' := by
  refine (laws_szIntSS.calls k A c l t r W (Kd.C_below hC hM.below) hc h).mono ?_
  rintro e w' ⟨rfl, q, rfl⟩
  exact ⟨rfl, hM.drewN q⟩
theorem toSS {A : Option Addr} {c : Nat} {l : List (List Int)} (k : Nat) (hC : ks.C w A l.length l) (hc : l.length ≤ c) (h : laws_toIntSS.f k l = some l) (hM : M w cs rs W) :
    Calls Try.prog 16 #[.slice A l.length c] W fun e w' => ∃ A' c' a b, e = .returned (.slice A' l.length c') ∧ M w cs (rows w.heap.size a b (.slice A' l.length c') l :: rs) w' := by
  refine (laws_toIntSS.calls k A c l l W (Kd.C_below hC hM.below) hc h).mono ?_
  rintro e w' ⟨v, rfl, hR, hb⟩
  obtain ⟨A', c', rfl⟩ := Kd.S_slice hR
  exact ⟨A', c', _, _, rfl, hM.rowsc hR hb⟩
theorem specG {a b c n : Nat} {A : Option Addr} {l : List (List Int)} {R : List Int} {n0 : Int} {o ro rb : Bool} (k : Nat) (h : spec_GraphOf.f k n0 l o = some (R, ro, rb)) (hM : M w cs rs W) (m1 : rows w.heap.size a b (.slice A n c) l ∈ rs) :
    Calls Try.prog 15 #[.int .i64 n0, .slice A n c, .bool o] W fun e w' => ∃ A c a b, e = .returned (.tuple #[.agg #[.slice A R.length c, .bool ro], .bool rb]) ∧ M w cs (row w.heap.size a b (.slice A R.length c) R :: rs) w' := by
  obtain ⟨e1, h1, h2⟩ := hM.readss m1
  rw [e1] at h1
  rw [e1]
  refine (spec_GraphOf.calls k n0 A c l o R ro rb W h2 h1 h).mono ?_
  rintro e w' ⟨v, rfl, hR, hb⟩
  obtain ⟨A', c', rfl⟩ := Kd.R_slice hR
  exact ⟨A', c', _, _, rfl, hM.rowc hR hb⟩
theorem implG {a b c n : Nat} {A : Option Addr} {l : List (List Int)} {R : List Int} {n0 : Int} {o ro rb : Bool} (k : Nat) (h : impl_GraphOf.f k n0 l o = some (R, ro, rb)) (hM : M w cs rs W) (m1 : rows w.heap.size a b (.slice A n c) l ∈ rs) :
    Calls Try.prog 17 #[.int .i64 n0, .slice A n c, .bool o] W fun e w' => ∃ A c a b, e = .returned (.tuple #[.agg #[.slice A R.length c, .bool ro], .bool rb]) ∧ M w cs (row w.heap.size a b (.slice A R.length c) R :: rs) w' := by
  obtain ⟨e1, h1, h2⟩ := hM.readss m1
  rw [e1] at h1
  rw [e1]
  refine (impl_GraphOf.calls k n0 A c l o R ro rb W h2 h1 h).mono ?_
  rintro e w' ⟨v, rfl, hR, hb⟩
  obtain ⟨A', c', rfl⟩ := Kd.R_slice hR
  exact ⟨A', c', _, _, rfl, hM.rowc hR hb⟩
end
section
variable (n0 : Int) (A1 : Option Addr) (c1 : Nat) (l1 : List (List Int)) (o0 : Bool) (w : World)
set_option maxRecDepth 100000 in
set_option maxHeartbeats 8000000 in
theorem main (t1 : Int) (k : Nat) (hC1 : ks.C w A1 l1.length l1) (hc1 : l1.length ≤ c1)
    (h1 : laws_szIntSS.f k l1 1048576 = some t1) (hp : ¬ t1 < 0)
    (R R' : List Int) (L1 : List (List Int)) (ro rb : Bool) (m1 m : Int)
    (t0 : laws_toIntSS.f k l1 = some l1) (hS : spec_GraphOf.f k n0 l1 o0 = some (R, ro, rb)) (hI : impl_GraphOf.f k n0 l1 o0 = some (R, ro, rb))
    (q1 : laws_eqIntSS.f k l1 l1 = some true) (qR : laws_eqGraph.f k R ro R ro = some true)
    (k1 : laws_markIntSS.f k l1 1 = some (m1, L1)) (hm1 : ¬ m1 < 0) (kR : laws_markGraph.f k R ro 1 = some (m, R')) (hh : laws_heldGraph.f k R' ro 1 = some m) (hm : ¬ m < 0) :
    Calls Try.prog 4 #[.int .i64 n0, .slice A1 l1.length c1, .bool o0] w fun e w' => e = .returned (.bool true) ∧ Below w.heap.size w w' := by
  have hu26 := Try.underlying26
  have HC1 := Aside0.mk hC1
  have hd1 : decide (t1 < 0) = false := decide_eq_false hp
  have hd3 : decide (m1 < 0) = false := decide_eq_false hm1
  have hd4 : decide (m < 0) = false := decide_eq_false hm
  have hM := M.start w
  clear hC1
  go_enter Try.func4, Try.ntmps4
  go_upto_region 5 with (first
    | (go_at_call 14; refine (szSS k HC1.out hc1 h1 hM).mono ?_; clear hM; rintro e w1 ⟨rfl, hM⟩))
  go_upto_region 6 with (first
    | (go_at_call 16; refine (toSS k HC1.out hc1 t0 hM).mono ?_; clear hM; rintro e w4 ⟨Ap2, cp2, ap2, bp2, rfl, hM⟩)
    | (go_at_call 15; refine (specG k hS hM (List.mem_cons_self ..)).mono ?_; clear hM; rintro e w5 ⟨As3, cs3, as3, bs3, rfl, hM⟩)
    | ((with_reducible refine gate_dst (N := 8) rfl ?_); refine box_event ?hg (N := 8) ?hd (cs := #[.slice none 0 0, .bool false]) (t := 26) ?hr ?_; (case hd => rfl); (case hg => rfl); (case hr => first | (go_simp; done) | (go_simp; rfl)); intro g8 hg w6 hbox hb; replace hM := hM.box hg hbox hb; clear hg hbox hb; have hz_g8_0 : w6.cell? ⟨g8, 0, none⟩ = some (.slice none 0 0) := hM.cell (t := 26) (xs := #[.slice none 0 0, .bool false]) (List.mem_cons_self ..) 0; have hf_g8_0 : w6.frozen? ⟨g8, 0, none⟩ = false := hM.frozen (t := 26) (xs := #[.slice none 0 0, .bool false]) (List.mem_cons_self ..) 0; have hz_g8_1 : w6.cell? ⟨g8, 1, none⟩ = some (.bool false) := hM.cell (t := 26) (xs := #[.slice none 0 0, .bool false]) (List.mem_cons_self ..) 1; have hf_g8_1 : w6.frozen? ⟨g8, 1, none⟩ = false := hM.frozen (t := 26) (xs := #[.slice none 0 0, .bool false]) (List.mem_cons_self ..) 1))
  clear hz_g8_0 hf_g8_0 hz_g8_1 hf_g8_1
  replace hM := hM.set2 (.slice As3 R.length cs3) (.bool ro)
  generalize ((w6.setCell ⟨g8, 0, none⟩ (.slice As3 R.length cs3)).setCell ⟨g8, 1, none⟩ (.bool ro)) = w7 at hM ⊢
  go_upto_region 7 with (first
    | (go_at_call 16; refine (toSS k HC1.out hc1 t0 hM).mono ?_; clear hM; rintro e w9 ⟨Ap8, cp8, ap8, bp8, rfl, hM⟩))
  go_upto_region 8 with (first
    | (go_at_call 17; refine (implG k hI hM (List.mem_cons_self ..)).mono ?_; clear hM; rintro e w11 ⟨Ag10, cg10, ag10, bg10, rfl, hM⟩)
    | ((with_reducible refine gate_dst (N := 11) rfl ?_); refine box_event ?hg (N := 11) ?hd (cs := #[.slice none 0 0, .bool false]) (t := 26) ?hr ?_; (case hd => rfl); (case hg => rfl); (case hr => first | (go_simp; done) | (go_simp; rfl)); intro g11 hg w12 hbox hb; replace hM := hM.box hg hbox hb; clear hg hbox hb; have hz_g11_0 : w12.cell? ⟨g11, 0, none⟩ = some (.slice none 0 0) := hM.cell (t := 26) (xs := #[.slice none 0 0, .bool false]) (List.mem_cons_self ..) 0; have hf_g11_0 : w12.frozen? ⟨g11, 0, none⟩ = false := hM.frozen (t := 26) (xs := #[.slice none 0 0, .bool false]) (List.mem_cons_self ..) 0; have hz_g11_1 : w12.cell? ⟨g11, 1, none⟩ = some (.bool false) := hM.cell (t := 26) (xs := #[.slice none 0 0, .bool false]) (List.mem_cons_self ..) 1; have hf_g11_1 : w12.frozen? ⟨g11, 1, none⟩ = false := hM.frozen (t := 26) (xs := #[.slice none 0 0, .bool false]) (List.mem_cons_self ..) 1))
  clear hz_g11_0 hf_g11_0 hz_g11_1 hf_g11_1
  replace hM := hM.set2 (.slice Ag10 R.length cg10) (.bool ro)
  generalize ((w12.setCell ⟨g11, 0, none⟩ (.slice Ag10 R.length cg10)).setCell ⟨g11, 1, none⟩ (.bool ro)) = w13 at hM ⊢
  have hz_g11_0 : w13.cell? ⟨g11, 0, none⟩ = some (.slice Ag10 R.length cg10) := hM.cell (t := 26) (xs := #[.slice Ag10 R.length cg10, .bool ro]) (List.mem_cons_self ..) 0
  have hz_g11_1 : w13.cell? ⟨g11, 1, none⟩ = some (.bool ro) := hM.cell (t := 26) (xs := #[.slice Ag10 R.length cg10, .bool ro]) (List.mem_cons_self ..) 1
  have hz_g8_0 : w13.cell? ⟨g8, 0, none⟩ = some (.slice As3 R.length cs3) := hM.cell (t := 26) (xs := #[.slice As3 R.length cs3, .bool ro]) (List.mem_cons_of_mem _ (List.mem_cons_self ..)) 0
  have hz_g8_1 : w13.cell? ⟨g8, 1, none⟩ = some (.bool ro) := hM.cell (t := 26) (xs := #[.slice As3 R.length cs3, .bool ro]) (List.mem_cons_of_mem _ (List.mem_cons_self ..)) 1
  go_upto_region 10 with (first
    | (go_at_call 11; refine (eqG k qR hM (List.mem_cons_self ..) (List.mem_cons_of_mem _ (List.mem_cons_of_mem _ (List.mem_cons_self ..)))).mono ?_; clear hM hz_g11_0 hz_g11_1 hz_g8_0 hz_g8_1; rintro e w14 ⟨rfl, hM⟩))
  go_upto_region 13 with (first
    | (go_at_call 16; refine (toSS k HC1.out hc1 t0 hM).mono ?_; clear hM; rintro e w16 ⟨Ap15, cp15, ap15, bp15, rfl, hM⟩)
    | (go_at_call 18; refine (eqSS k q1 hM (List.mem_cons_of_mem _ (List.mem_cons_of_mem _ (List.mem_cons_self ..))) (List.mem_cons_self ..)).mono ?_; clear hM; rintro e w17 ⟨rfl, hM⟩))
  replace hM := hM.to2
  go_upto_region 14 with (first
    | (go_at_call 19; refine (markSS k k1 hM).mono ?_; clear hM; rintro e w18 ⟨rfl, hM⟩))
  have hz_g11_0 : w18.cell? ⟨g11, 0, none⟩ = some (.slice Ag10 R.length cg10) := hM.cell (t := 26) (xs := #[.slice Ag10 R.length cg10, .bool ro]) (List.mem_cons_self ..) 0
  have hz_g11_1 : w18.cell? ⟨g11, 1, none⟩ = some (.bool ro) := hM.cell (t := 26) (xs := #[.slice Ag10 R.length cg10, .bool ro]) (List.mem_cons_self ..) 1
  have hz_g8_0 : w18.cell? ⟨g8, 0, none⟩ = some (.slice As3 R.length cs3) := hM.cell (t := 26) (xs := #[.slice As3 R.length cs3, .bool ro]) (List.mem_cons_of_mem _ (List.mem_cons_self ..)) 0
  have hz_g8_1 : w18.cell? ⟨g8, 1, none⟩ = some (.bool ro) := hM.cell (t := 26) (xs := #[.slice As3 R.length cs3, .bool ro]) (List.mem_cons_of_mem _ (List.mem_cons_self ..)) 1
  go_upto_region 17 with (first
    | (go_at_call 11; refine (eqG k qR hM (List.mem_cons_of_mem _ (List.mem_cons_of_mem _ (List.mem_cons_self ..))) (List.mem_cons_of_mem _ (List.mem_cons_of_mem _ (List.mem_cons_of_mem _ (List.mem_cons_self ..))))).mono ?_; clear hM hz_g11_0 hz_g11_1 hz_g8_0 hz_g8_1; rintro e w19 ⟨rfl, hM⟩))
  replace hM := hM.to2
  have hz_g11_0 : w19.cell? ⟨g11, 0, none⟩ = some (.slice Ag10 R.length cg10) := hM.cell (t := 26) (xs := #[.slice Ag10 R.length cg10, .bool ro]) (List.mem_cons_self ..) 0
  have hz_g11_1 : w19.cell? ⟨g11, 1, none⟩ = some (.bool ro) := hM.cell (t := 26) (xs := #[.slice Ag10 R.length cg10, .bool ro]) (List.mem_cons_self ..) 1
  go_upto_region 19 with (first
    | (go_at_call 12; refine (markG k kR hM).mono ?_; clear hM hz_g11_0 hz_g11_1; rintro e w20 ⟨rfl, hM⟩))
  have hz_g11_0 : w20.cell? ⟨g11, 0, none⟩ = some (.slice Ag10 R.length cg10) := hM.cell (t := 26) (xs := #[.slice Ag10 R.length cg10, .bool ro]) (List.mem_cons_self ..) 0
  have hz_g11_1 : w20.cell? ⟨g11, 1, none⟩ = some (.bool ro) := hM.cell (t := 26) (xs := #[.slice Ag10 R.length cg10, .bool ro]) (List.mem_cons_self ..) 1
  go_upto_region 24 with (first
    | (go_at_call 13; refine (heldG k hh hM (List.mem_cons_self ..)).mono ?_; clear hM hz_g11_0 hz_g11_1; rintro e w21 ⟨rfl, hM⟩))
  go_upto_region 25 with (first
    | (go_at_call 16; refine (toSS k HC1.out hc1 t0 hM).mono ?_; clear hM; rintro e w24 ⟨Ap22, cp22, ap22, bp22, rfl, hM⟩)
    | (go_at_call 17; refine (implG k hI hM (List.mem_cons_self ..)).mono ?_; clear hM; rintro e w25 ⟨Ah23, ch23, ah23, bh23, rfl, hM⟩)
    | ((with_reducible refine gate_dst (N := 16) rfl ?_); refine box_event ?hg (N := 16) ?hd (cs := #[.slice none 0 0, .bool false]) (t := 26) ?hr ?_; (case hd => rfl); (case hg => rfl); (case hr => first | (go_simp; done) | (go_simp; rfl)); intro g16 hg w26 hbox hb; replace hM := hM.box hg hbox hb; clear hg hbox hb; have hz_g16_0 : w26.cell? ⟨g16, 0, none⟩ = some (.slice none 0 0) := hM.cell (t := 26) (xs := #[.slice none 0 0, .bool false]) (List.mem_cons_self ..) 0; have hf_g16_0 : w26.frozen? ⟨g16, 0, none⟩ = false := hM.frozen (t := 26) (xs := #[.slice none 0 0, .bool false]) (List.mem_cons_self ..) 0; have hz_g16_1 : w26.cell? ⟨g16, 1, none⟩ = some (.bool false) := hM.cell (t := 26) (xs := #[.slice none 0 0, .bool false]) (List.mem_cons_self ..) 1; have hf_g16_1 : w26.frozen? ⟨g16, 1, none⟩ = false := hM.frozen (t := 26) (xs := #[.slice none 0 0, .bool false]) (List.mem_cons_self ..) 1))
  clear hz_g16_0 hf_g16_0 hz_g16_1 hf_g16_1
  replace hM := hM.set2 (.slice Ah23 R.length ch23) (.bool ro)
  generalize ((w26.setCell ⟨g16, 0, none⟩ (.slice Ah23 R.length ch23)).setCell ⟨g16, 1, none⟩ (.bool ro)) = w27 at hM ⊢
  have hz_g16_0 : w27.cell? ⟨g16, 0, none⟩ = some (.slice Ah23 R.length ch23) := hM.cell (t := 26) (xs := #[.slice Ah23 R.length ch23, .bool ro]) (List.mem_cons_self ..) 0
  have hz_g16_1 : w27.cell? ⟨g16, 1, none⟩ = some (.bool ro) := hM.cell (t := 26) (xs := #[.slice Ah23 R.length ch23, .bool ro]) (List.mem_cons_self ..) 1
  have hz_g8_0 : w27.cell? ⟨g8, 0, none⟩ = some (.slice As3 R.length cs3) := hM.cell (t := 26) (xs := #[.slice As3 R.length cs3, .bool ro]) (List.mem_cons_of_mem _ (List.mem_cons_of_mem _ (List.mem_cons_self ..))) 0
  have hz_g8_1 : w27.cell? ⟨g8, 1, none⟩ = some (.bool ro) := hM.cell (t := 26) (xs := #[.slice As3 R.length cs3, .bool ro]) (List.mem_cons_of_mem _ (List.mem_cons_of_mem _ (List.mem_cons_self ..))) 1
  go_upto_region 28 with (first
    | (go_at_call 11; refine (eqG k qR hM (List.mem_cons_self ..) (List.mem_cons_of_mem _ (List.mem_cons_of_mem _ (List.mem_cons_of_mem _ (List.mem_cons_of_mem _ (List.mem_cons_of_mem _ (List.mem_cons_self ..))))))).mono ?_; clear hM hz_g16_0 hz_g16_1 hz_g8_0 hz_g8_1; rintro e w28 ⟨rfl, hM⟩))
  have hz_g11_0 : w28.cell? ⟨g11, 0, none⟩ = some (.slice Ag10 R.length cg10) := hM.cell (t := 26) (xs := #[.slice Ag10 R.length cg10, .bool ro]) (List.mem_cons_of_mem _ (List.mem_cons_self ..)) 0
  have hz_g11_1 : w28.cell? ⟨g11, 1, none⟩ = some (.bool ro) := hM.cell (t := 26) (xs := #[.slice Ag10 R.length cg10, .bool ro]) (List.mem_cons_of_mem _ (List.mem_cons_self ..)) 1
  go_wp2_with (go_at_call 13; refine (heldG k hh hM (List.mem_cons_of_mem _ (List.mem_cons_of_mem _ (List.mem_cons_self ..)))).mono ?_; clear hM hz_g11_0 hz_g11_1; rintro e w29 ⟨rfl, hM⟩)
  go_ret
  exact ⟨rfl, hM.below⟩
set_option maxRecDepth 100000 in
set_option maxHeartbeats 8000000 in
theorem e1 (t1 : Int) (k : Nat) (hC1 : ks.C w A1 l1.length l1) (hc1 : l1.length ≤ c1) (h1 : laws_szIntSS.f k l1 1048576 = some t1) (hn : t1 < 0) :
    Calls Try.prog 4 #[.int .i64 n0, .slice A1 l1.length c1, .bool o0] w fun e w' => e = .returned (.bool true) ∧ Below w.heap.size w w' := by
  have HC1 := Aside0.mk hC1
  have hd1 : decide (t1 < 0) = true := decide_eq_true hn
  have hM := M.start w
  clear hC1
  go_enter Try.func4, Try.ntmps4
  go_wp2_with (go_at_call 14; refine (szSS k HC1.out hc1 h1 hM).mono ?_; clear hM; rintro e w3 ⟨rfl, hM⟩)
  go_ret
  exact ⟨rfl, hM.below⟩
/-- The law's function answers true. -/
theorem law (_ : (Lit.int .i64 n0).wf = true) (hl : l1.length ≤ maxLen) (hx : ∀ x ∈ l1, x.length ≤ maxLen) (hC1 : ks.C w A1 l1.length l1) (hc1 : l1.length ≤ c1) :
    Calls Try.prog 4 #[.int .i64 n0, .slice A1 l1.length c1, .bool o0] w fun e w' => e = .returned (.bool true) ∧ Below w.heap.size w w' := by
  obtain ⟨t1, h1, hq⟩ := szSS_f l1 hl hx 3000000 (by omega)
  by_cases g1 : t1 < 0
  · exact e1 n0 A1 c1 l1 o0 w t1 3000000 hC1 hc1 h1 g1
  · obtain ⟨g2, g3⟩ := hq g1
    obtain ⟨R, ro, rb, hS, hI, hR⟩ := gof_both n0 l1 o0 3000000 (by omega)
    have hx3 : ∀ x ∈ l1, x.length < 1048577 := fun x h => Nat.lt_succ_of_le (Nat.le_trans (le_tot l1 x h) g3)
    exact main n0 A1 c1 l1 o0 w t1 3000000 hC1 hc1 h1 g1 R _ _ ro rb _ _ (toSS_f 1048577 l1 hx3 (by decide) (by omega) _ (by omega)) hS hI
      (eqSS_f 1048577 l1 hx3 (by decide) (by omega) _ (by omega)) (eqGraph_self R ro (by omega) _ (by omega))
      (markSS_f 1048577 l1 hx3 (by decide) (by omega) (by omega) _ (by omega)) (by omega) (markE_f 1 R ro (by omega) (by decide) _ (by omega)) (heldNG_f 1 R.length ro (by omega) (by decide) _ (by omega)) (by omega)
end
end Go.Proofs.Yteabfdcobkgmmaa.Gof
