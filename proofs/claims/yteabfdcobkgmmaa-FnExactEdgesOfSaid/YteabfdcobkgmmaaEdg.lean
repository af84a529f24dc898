/- The law of EdgesOf, walked along the one path that it takes. -/
import Derived.Test.YteabfdcobkgmmaaMgFnExactEdgesOf
import Derived.Test.YteabfdcobkgmmaaMgeFnExactEdgesOf
import Derived.Test.YteabfdcobkgmmaaLemFnExactEdgesOf
namespace Go.Proofs.Yteabfdcobkgmmaa.Edg
open Go.RowKit Go.Proofs.Yteabfdcobkgmmaa.PFnExactEdgesOf Go.Proofs.YteabfdcobkgmmaaW.PrintWords Go.Proofs.YteabfdcobkgmmaaW.PrintLast Go.Proofs.YteabfdcobkgmmaaW.PrintMore Go.Proofs.Yteabfdcobkgmmaa.Mw Go.Proofs.Yteabfdcobkgmmaa.MgFnExactEdgesOf Go.Proofs.Yteabfdcobkgmmaa.MgeFnExactEdgesOf Go.Proofs.Yteabfdcobkgmmaa.LemFnExactEdgesOf
set_option linter.unusedSimpArgs false
set_option linter.unusedVariables false
section
variable {w W : World} {cs : List Bk} {rs : List It}
theorem specE {a b c n : Nat} {A : Option Addr} {l : List Int} {R : List (List Int)} {o rb : Bool} (k : Nat) (h : spec_EdgesOf.f k l o = some (R, rb)) (hM : M w cs rs W) (m1 : row w.heap.size a b (.slice A n c) l ∈ rs) :
    Calls Try.prog 20 #[.agg #[.slice A n c, .bool o]] W fun e w' => ∃ A c a b, e = .returned (.tuple #[.slice A R.length c, .bool rb]) ∧ M w cs (rows w.heap.size a b (.slice A R.length c) R :: rs) w' := by
  obtain ⟨e1, h1, h2⟩ := hM.reads m1
  rw [e1] at h1
  rw [e1]
  refine (spec_EdgesOf.calls k A c l o R rb W h2 h1 h).mono ?_
  rintro e w' ⟨v, rfl, hR, hb⟩
  obtain ⟨A', c', rfl⟩ := Kd.S_slice hR
  exact ⟨A', c', _, _, rfl, hM.rowsc hR hb⟩
theorem implE {a b c n : Nat} {A : Option Addr} {l : List Int} {R : List (List Int)} {o rb : Bool} (k : Nat) (h : impl_EdgesOf.f k l o = some (R, rb)) (hM : M w cs rs W) (m1 : row w.heap.size a b (.slice A n c) l ∈ rs) :
    Calls Try.prog 21 #[.agg #[.slice A n c, .bool o]] W fun e w' => ∃ A c a b, e = .returned (.tuple #[.slice A R.length c, .bool rb]) ∧ M w cs (rows w.heap.size a b (.slice A R.length c) R :: rs) w' := by
  obtain ⟨e1, h1, h2⟩ := hM.reads m1
  rw [e1] at h1
  rw [e1]
  refine (impl_EdgesOf.calls k A c l o R rb W h2 h1 h).mono ?_
  rintro e w' ⟨v, rfl, hR, hb⟩
  obtain ⟨A', c', rfl⟩ := Kd.S_slice hR
  exact ⟨A', c', _, _, rfl, hM.rowsc hR hb⟩
end
section
variable (A0 : Option Addr) (c0 : Nat) (l0 : List Int) (o0 : Bool) (w : World)
set_option maxRecDepth 100000 in
set_option maxHeartbeats 8000000 in
theorem main (t1 : Int) (hC0 : ki.C w A0 l0.length l0) (hc0 : l0.length ≤ c0)
    (h1 : laws_szGraph.f l0 o0 1048576 = some t1) (hp : ¬ t1 < 0)
    (k : Nat) (R R' : List (List Int)) (L0 : List Int) (rb : Bool) (m1 m : Int)
    (t0 : laws_toGraph.f k l0 o0 = some (l0, o0)) (hS : spec_EdgesOf.f k l0 o0 = some (R, rb)) (hI : impl_EdgesOf.f k l0 o0 = some (R, rb))
    (q0 : laws_eqGraph.f k l0 o0 l0 o0 = some true) (qR : laws_eqIntSS.f k R R = some true)
    (k0 : laws_markGraph.f k l0 o0 1 = some (m1, L0)) (hm1 : ¬ m1 < 0) (hRR : R'.length = R.length) (kR : laws_markIntSS.f k R 1 = some (m, R')) (hh : laws_heldIntSS.f k R' 1 = some m) (hm : ¬ m < 0) :
    Calls Try.prog 5 #[.agg #[.slice A0 l0.length c0, .bool o0]] w fun e w' => e = .returned (.bool true) ∧ Below w.heap.size w w' := by
  have hu24 := Try.underlying24
  have hu26 := Try.underlying26
  have HC0 := Aside0.mk hC0
  have hd1 : decide (t1 < 0) = false := decide_eq_false hp
  have hd3 : decide (m1 < 0) = false := decide_eq_false hm1
  have hd4 : decide (m < 0) = false := decide_eq_false hm
  have hM := M.start w
  clear hC0
  go_enter Try.func5, Try.ntmps5
  go_upto_region 2 with ((with_reducible refine gate_dst (N := 1) rfl ?_); refine box_event ?hg (N := 1) ?hd (cs := #[.slice A0 l0.length c0, .bool o0]) (t := 24) ?hr ?_; (case hd => rfl); (case hg => rfl); (case hr => first | (go_simp; done) | (go_simp; rfl)); intro g1 hg w1 hbox hb; replace hM := hM.box hg hbox hb; clear hg hbox hb)
  have hz_g1_0 : w1.cell? ⟨g1, 0, none⟩ = some (.slice A0 l0.length c0) := hM.cell (t := 24) (xs := #[.slice A0 l0.length c0, .bool o0]) (List.mem_cons_self ..) 0
  have hz_g1_1 : w1.cell? ⟨g1, 1, none⟩ = some (.bool o0) := hM.cell (t := 24) (xs := #[.slice A0 l0.length c0, .bool o0]) (List.mem_cons_self ..) 1
  go_upto_region 5 with (first
    | (go_at_call 7; refine (szG HC0.out hc0 h1 hM).mono ?_; clear hM hz_g1_0 hz_g1_1; rintro e w2 ⟨rfl, hM⟩))
  have hz_g1_0 : w2.cell? ⟨g1, 0, none⟩ = some (.slice A0 l0.length c0) := hM.cell (t := 24) (xs := #[.slice A0 l0.length c0, .bool o0]) (List.mem_cons_self ..) 0
  have hz_g1_1 : w2.cell? ⟨g1, 1, none⟩ = some (.bool o0) := hM.cell (t := 24) (xs := #[.slice A0 l0.length c0, .bool o0]) (List.mem_cons_self ..) 1
  go_upto_region 6 with (first
    | (go_at_call 9; refine (toG k HC0.out hc0 t0 hM).mono ?_; clear hM hz_g1_0 hz_g1_1; rintro e w5 ⟨Ap3, cp3, ap3, bp3, rfl, hM⟩)
    | (go_at_call 20; refine (specE k hS hM (List.mem_cons_self ..)).mono ?_; clear hM; rintro e w6 ⟨As4, cs4, as4, bs4, rfl, hM⟩))
  replace hM := hM.to1
  replace hM := hM.drop
  have hz_g1_0 : w6.cell? ⟨g1, 0, none⟩ = some (.slice A0 l0.length c0) := hM.cell (t := 24) (xs := #[.slice A0 l0.length c0, .bool o0]) (List.mem_cons_self ..) 0
  have hz_g1_1 : w6.cell? ⟨g1, 1, none⟩ = some (.bool o0) := hM.cell (t := 24) (xs := #[.slice A0 l0.length c0, .bool o0]) (List.mem_cons_self ..) 1
  go_upto_region 7 with (first
    | (go_at_call 9; refine (toG k HC0.out hc0 t0 hM).mono ?_; clear hM hz_g1_0 hz_g1_1; rintro e w8 ⟨Ap7, cp7, ap7, bp7, rfl, hM⟩)
    | ((with_reducible refine gate_dst (N := 6) rfl ?_); refine box_event ?hg (N := 6) ?hd (cs := #[.slice none 0 0, .bool false]) (t := 26) ?hr ?_; (case hd => rfl); (case hg => rfl); (case hr => first | (go_simp; done) | (go_simp; rfl)); intro g6 hg w9 hbox hb; replace hM := hM.box hg hbox hb; clear hg hbox hb; have hz_g6_0 : w9.cell? ⟨g6, 0, none⟩ = some (.slice none 0 0) := hM.cell (t := 26) (xs := #[.slice none 0 0, .bool false]) (List.mem_cons_self ..) 0; have hf_g6_0 : w9.frozen? ⟨g6, 0, none⟩ = false := hM.frozen (t := 26) (xs := #[.slice none 0 0, .bool false]) (List.mem_cons_self ..) 0; have hz_g6_1 : w9.cell? ⟨g6, 1, none⟩ = some (.bool false) := hM.cell (t := 26) (xs := #[.slice none 0 0, .bool false]) (List.mem_cons_self ..) 1; have hf_g6_1 : w9.frozen? ⟨g6, 1, none⟩ = false := hM.frozen (t := 26) (xs := #[.slice none 0 0, .bool false]) (List.mem_cons_self ..) 1))
  clear hz_g6_0 hf_g6_0 hz_g6_1 hf_g6_1
  replace hM := hM.set2 (.slice Ap7 l0.length cp7) (.bool o0)
  generalize ((w9.setCell ⟨g6, 0, none⟩ (.slice Ap7 l0.length cp7)).setCell ⟨g6, 1, none⟩ (.bool o0)) = w10 at hM ⊢
  have hz_g6_0 : w10.cell? ⟨g6, 0, none⟩ = some (.slice Ap7 l0.length cp7) := hM.cell (t := 26) (xs := #[.slice Ap7 l0.length cp7, .bool o0]) (List.mem_cons_self ..) 0
  have hz_g6_1 : w10.cell? ⟨g6, 1, none⟩ = some (.bool o0) := hM.cell (t := 26) (xs := #[.slice Ap7 l0.length cp7, .bool o0]) (List.mem_cons_self ..) 1
  go_upto_region 8 with (first
    | (go_at_call 21; refine (implE k hI hM (List.mem_cons_self ..)).mono ?_; clear hM hz_g6_0 hz_g6_1; rintro e w12 ⟨Ag11, cg11, ag11, bg11, rfl, hM⟩))
  go_upto_region 10 with (first
    | (go_at_call 18; refine (eqSS k qR hM (List.mem_cons_self ..) (List.mem_cons_of_mem _ (List.mem_cons_of_mem _ (List.mem_cons_self ..)))).mono ?_; clear hM; rintro e w13 ⟨rfl, hM⟩))
  replace hM := hM.drew
  refine start_ (n := 5) (S := fun w' => w'.cell? ⟨g6, 0, none⟩ = some (.slice Ap7 l0.length cp7) ∧ w'.cell? ⟨g6, 1, none⟩ = some (.bool o0) ∧ w'.cell? ⟨g1, 0, none⟩ = some (.slice A0 l0.length c0) ∧ w'.cell? ⟨g1, 1, none⟩ = some (.bool o0)) (ds := []) #[false, false, false, false, false] (by kernel_rfl) rfl rfl ⟨hM.cell (t := 26) (xs := #[.slice Ap7 l0.length cp7, .bool o0]) (List.mem_cons_self ..) 0, hM.cell (t := 26) (xs := #[.slice Ap7 l0.length cp7, .bool o0]) (List.mem_cons_self ..) 1, hM.cell (t := 24) (xs := #[.slice A0 l0.length c0, .bool o0]) (List.mem_cons_of_mem _ (List.mem_cons_self ..)) 0, hM.cell (t := 24) (xs := #[.slice A0 l0.length c0, .bool o0]) (List.mem_cons_of_mem _ (List.mem_cons_self ..)) 1⟩ (fun hHeld => ?_)
  generalize w13.drew = w15 at hM hHeld ⊢
  refine take_ (i := 0) (N := some 41) (v := ?_) (a' := ?_) #[true, false, false, false, false] rfl rfl (by kernel_rfl) (fun _ _ _ h => h) (Or.inl ⟨by rfl, ?_⟩) hHeld ?_ ?_
  rotate_left
  · rintro w' ⟨s0, s1, s2, s3⟩
    go_simp
    with_reducible rfl
  rotate_left
  · simp only [Act.put, List.setIfInBounds_toArray, List.set_cons_zero, List.set_cons_succ, i64_w, i32_w]
    rfl
  refine take_ (i := 1) (N := some 42) (v := ?_) (a' := ?_) #[true, true, false, false, false] rfl rfl (by kernel_rfl) (fun _ _ _ h => h) (Or.inl ⟨by rfl, ?_⟩) hHeld ?_ ?_
  rotate_left
  · rintro w' ⟨s0, s1, s2, s3⟩
    go_simp
    with_reducible rfl
  rotate_left
  · simp only [Act.put, List.setIfInBounds_toArray, List.set_cons_zero, List.set_cons_succ, i64_w, i32_w]
    rfl
  refine one_ (i := 2) (N := some 43) #[true, true, true, false, false] rfl rfl (by kernel_rfl) (by decide) (fun K hK => ?_)
  refine goes_ Try.func9 (by kernel_rfl) rfl #[.agg #[.slice A0 l0.length c0, .bool o0]] (by rfl) rfl rfl (by (try simp only [List.map_toArray, List.map_cons, List.map_nil]); first | done | rfl | (simp only [List.length_drop, List.length_take]; rfl)) ?_
  refine (toG k HC0.out hc0 t0 hM).mono ?_
  clear hM hHeld
  rintro e w16 ⟨Ae14, ce14, ae14, be14, rfl, hM⟩
  refine ⟨_, rfl, ?_⟩
  refine hK.out _ _ ⟨hM.cell (t := 26) (xs := #[.slice Ap7 l0.length cp7, .bool o0]) (List.mem_cons_self ..) 0, hM.cell (t := 26) (xs := #[.slice Ap7 l0.length cp7, .bool o0]) (List.mem_cons_self ..) 1, hM.cell (t := 24) (xs := #[.slice A0 l0.length c0, .bool o0]) (List.mem_cons_of_mem _ (List.mem_cons_self ..)) 0, hM.cell (t := 24) (xs := #[.slice A0 l0.length c0, .bool o0]) (List.mem_cons_of_mem _ (List.mem_cons_self ..)) 1⟩ (fun hHeld => ?_)
  clear hK K
  refine norm_ (a' := ?_) ?_ ?_
  rotate_left
  · show Act.put _ (some 43) _ = _
    simp only [Act.put, List.setIfInBounds_toArray, List.set_cons_zero, List.set_cons_succ, i64_w, i32_w]
    rfl
  refine one_ (i := 3) (N := some 44) #[true, true, true, true, false] rfl rfl (by kernel_rfl) (by decide) (fun K hK => ?_)
  refine goes_ Try.func11 (by kernel_rfl) rfl #[.agg #[.slice Ap7 l0.length cp7, .bool o0], .agg #[.slice Ae14 l0.length ce14, .bool o0]] (by rfl) rfl rfl (by (try simp only [List.map_toArray, List.map_cons, List.map_nil]); first | done | rfl | (simp only [List.length_drop, List.length_take]; rfl)) ?_
  refine (eqG k q0 hM (List.mem_cons_of_mem _ (List.mem_cons_of_mem _ (List.mem_cons_self ..))) (List.mem_cons_self ..)).mono ?_
  clear hM hHeld
  rintro e w17 ⟨rfl, hM⟩
  refine ⟨_, rfl, ?_⟩
  refine hK.out _ _ ⟨hM.cell (t := 26) (xs := #[.slice Ap7 l0.length cp7, .bool o0]) (List.mem_cons_self ..) 0, hM.cell (t := 26) (xs := #[.slice Ap7 l0.length cp7, .bool o0]) (List.mem_cons_self ..) 1, hM.cell (t := 24) (xs := #[.slice A0 l0.length c0, .bool o0]) (List.mem_cons_of_mem _ (List.mem_cons_self ..)) 0, hM.cell (t := 24) (xs := #[.slice A0 l0.length c0, .bool o0]) (List.mem_cons_of_mem _ (List.mem_cons_self ..)) 1⟩ (fun hHeld => ?_)
  clear hK K
  refine norm_ (a' := ?_) ?_ ?_
  rotate_left
  · show Act.put _ (some 44) _ = _
    simp only [Act.put, List.setIfInBounds_toArray, List.set_cons_zero, List.set_cons_succ, i64_w, i32_w]
    rfl
  refine pure_ (i := 4) (N := some 45) (v := ?_) (a' := ?_) #[true, true, true, true, true] rfl rfl (by kernel_rfl) (fun _ _ _ h => h) (Or.inl ⟨by rfl, ?_⟩) ?_ ?_
  rotate_left
  · intro w'
    go_simp
    with_reducible rfl
  rotate_left
  · simp only [Act.put, List.setIfInBounds_toArray, List.set_cons_zero, List.set_cons_succ, i64_w, i32_w]
    rfl
  refine done_ (by kernel_rfl) ?_
  replace hM := hM.drop
  go_upto_region 13 with fail
  replace hM := hM.to1
  have hz_g6_0 : w17.cell? ⟨g6, 0, none⟩ = some (.slice Ap7 l0.length cp7) := hM.cell (t := 26) (xs := #[.slice Ap7 l0.length cp7, .bool o0]) (List.mem_cons_self ..) 0
  have hz_g6_1 : w17.cell? ⟨g6, 1, none⟩ = some (.bool o0) := hM.cell (t := 26) (xs := #[.slice Ap7 l0.length cp7, .bool o0]) (List.mem_cons_self ..) 1
  go_upto_region 14 with (first
    | (go_at_call 12; refine (markG k k0 hM).mono ?_; clear hM hz_g6_0 hz_g6_1; rintro e w18 ⟨rfl, hM⟩))
  go_upto_region 17 with (first
    | (go_at_call 18; refine (eqSS k qR hM (List.mem_cons_of_mem _ (List.mem_cons_self ..)) (List.mem_cons_of_mem _ (List.mem_cons_of_mem _ (List.mem_cons_self ..)))).mono ?_; clear hM; rintro e w19 ⟨rfl, hM⟩))
  replace hM := hM.to1
  go_upto_region 19 with (first
    | (go_at_call 19; refine (markSS k kR hM).mono ?_; clear hM; rintro e w20 ⟨rfl, hM⟩))
  go_upto_region 24 with (first
    | (go_at_call 22; refine (heldSS k hh hM (List.mem_cons_self ..)).mono ?_; clear hM; rintro e w21 ⟨rfl, hM⟩))
  have hz_g1_0 : w21.cell? ⟨g1, 0, none⟩ = some (.slice A0 l0.length c0) := hM.cell (t := 24) (xs := #[.slice A0 l0.length c0, .bool o0]) (List.mem_cons_of_mem _ (List.mem_cons_self ..)) 0
  have hz_g1_1 : w21.cell? ⟨g1, 1, none⟩ = some (.bool o0) := hM.cell (t := 24) (xs := #[.slice A0 l0.length c0, .bool o0]) (List.mem_cons_of_mem _ (List.mem_cons_self ..)) 1
  go_upto_region 25 with (first
    | (go_at_call 9; refine (toG k HC0.out hc0 t0 hM).mono ?_; clear hM hz_g1_0 hz_g1_1; rintro e w24 ⟨Ap22, cp22, ap22, bp22, rfl, hM⟩)
    | (go_at_call 21; refine (implE k hI hM (List.mem_cons_self ..)).mono ?_; clear hM; rintro e w25 ⟨Ah23, ch23, ah23, bh23, rfl, hM⟩))
  replace hM := hM.to1
  replace hM := hM.drop
  go_upto_region 28 with (first
    | (go_at_call 18; refine (eqSS k qR hM (List.mem_cons_self ..) (List.mem_cons_of_mem _ (List.mem_cons_of_mem _ (List.mem_cons_of_mem _ (List.mem_cons_self ..))))).mono ?_; clear hM; rintro e w26 ⟨rfl, hM⟩))
  go_wp2_with (go_at_call 22; refine (heldSS k hh hM (List.mem_cons_of_mem _ (List.mem_cons_self ..))).mono ?_; clear hM; rintro e w27 ⟨rfl, hM⟩)
  go_ret
  exact ⟨rfl, hM.below⟩
end
section
variable (A0 : Option Addr) (c0 : Nat) (l0 : List Int) (o0 : Bool) (w : World)
set_option maxRecDepth 100000 in
set_option maxHeartbeats 8000000 in
theorem e1 (t1 : Int) (hC0 : ki.C w A0 l0.length l0) (hc0 : l0.length ≤ c0) (h1 : laws_szGraph.f l0 o0 1048576 = some t1) (hn : t1 < 0) :
    Calls Try.prog 5 #[.agg #[.slice A0 l0.length c0, .bool o0]] w fun e w' => e = .returned (.bool true) ∧ Below w.heap.size w w' := by
  have hu24 := Try.underlying24
  have HC0 := Aside0.mk hC0
  have hd1 : decide (t1 < 0) = true := decide_eq_true hn
  have hM := M.start w
  clear hC0
  go_enter Try.func5, Try.ntmps5
  go_upto_region 2 with ((with_reducible refine gate_dst (N := 1) rfl ?_); refine box_event ?hg (N := 1) ?hd (cs := #[.slice A0 l0.length c0, .bool o0]) (t := 24) ?hr ?_; (case hd => rfl); (case hg => rfl); (case hr => first | (go_simp; done) | (go_simp; rfl)); intro g1 hg w1 hbox hb; replace hM := hM.box hg hbox hb; clear hg hbox hb)
  have hz_g1_0 : w1.cell? ⟨g1, 0, none⟩ = some (.slice A0 l0.length c0) := hM.cell (t := 24) (xs := #[.slice A0 l0.length c0, .bool o0]) (List.mem_cons_self ..) 0
  have hz_g1_1 : w1.cell? ⟨g1, 1, none⟩ = some (.bool o0) := hM.cell (t := 24) (xs := #[.slice A0 l0.length c0, .bool o0]) (List.mem_cons_self ..) 1
  go_wp2_with (go_at_call 7; refine (szG HC0.out hc0 h1 hM).mono ?_; clear hM hz_g1_0 hz_g1_1; rintro e w3 ⟨rfl, hM⟩)
  go_ret
  exact ⟨rfl, hM.below⟩
/-- The law's function answers true. -/
theorem law (hm0 : l0.length ≤ maxLen) (_ : ∀ x ∈ l0, (Lit.int .i64 x).wf = true) (hC0 : ki.C w A0 l0.length l0) (hc0 : l0.length ≤ c0) :
    Calls Try.prog 5 #[.agg #[.slice A0 l0.length c0, .bool o0]] w fun e w' => e = .returned (.bool true) ∧ Below w.heap.size w w' := by
  have h1 := szGraph_f l0 o0 1048576 hm0 (by decide) (by decide)
  by_cases g1 : (1048576 : Int) < (l0.length : Int)
  · rw [if_pos g1] at h1
    exact e1 A0 c0 l0 o0 w _ hC0 hc0 h1 (by decide)
  · rw [if_neg g1] at h1
    obtain ⟨R, rb, hS, hI, hR, hx⟩ := edg_both l0 o0 3000000 (by omega)
    have ht := tot_le 2 R hx
    have hx3 : ∀ x ∈ R, x.length < 3 := fun x h => Nat.lt_succ_of_le (hx x h)
    exact main A0 c0 l0 o0 w _ hC0 hc0 h1 (by omega) 3000000 R _ _ rb _ _ (toGraph_f l0 o0 (by omega) _ (by omega)) hS hI
      (eqGraph_self l0 o0 (by omega) _ (by omega)) (eqSS_f 3 R hx3 (by decide) (by omega) _ (by omega))
      (markE_f 1 l0 o0 (by omega) (by decide) _ (by omega)) (by omega) (mkss_length 1 R) (markSS_f 3 R hx3 (by decide) (by omega) (by omega) _ (by omega)) (heldSS_f 3 R hx3 (by decide) (by omega) (by omega) _ (by omega)) (by omega)
end
end Go.Proofs.Yteabfdcobkgmmaa.Edg
