/- The law of JoinGraphs, walked along the one path that it takes. -/
import Derived.Test.YteabfdcobkgmmaaMgFnExactJoinGraphs
import Derived.Test.YteabfdcobkgmmaaLemFnExactJoinGraphs
namespace Go.Proofs.Yteabfdcobkgmmaa.Join
open Go.RowKit Go.Proofs.Yteabfdcobkgmmaa.PFnExactJoinGraphs Go.Proofs.YteabfdcobkgmmaaW.PrintWords Go.Proofs.YteabfdcobkgmmaaW.PrintLast Go.Proofs.YteabfdcobkgmmaaW.PrintMore Go.Proofs.Yteabfdcobkgmmaa.Mw Go.Proofs.Yteabfdcobkgmmaa.MgFnExactJoinGraphs Go.Proofs.Yteabfdcobkgmmaa.LemFnExactJoinGraphs
set_option linter.unusedSimpArgs false
set_option linter.unusedVariables false
def T8 : Bool × List (List Nat × List Nat) := (true, [([], []), ([0], [0]), ([], []), ([2, 1], [2]), ([1, 3, 3], [1, 3]), ([4], [4]), ([5], [5]), ([5], [5]), ([], []), ([8, 6, 4, 0, 1, 2, 3, 4, 5, 6, 8], [6, 8]), ([7, 9, 0, 1, 2, 3, 4, 5, 6, 7, 8, 9], [7])])
def B8 : List Nat := [0, 1, 0, 7, 15, 31, 63, 63, 0, 383, 1023]
theorem tab8 : rtab .any (opsOf Try.f3 8) = T8 := by kernel_rfl
theorem bits8 : waitsOk T8.2 B8 = true := by kernel_rfl
theorem tab31 : rtab .any (opsOf Try.f3 31) = T8 := by kernel_rfl
theorem bits31 : waitsOk T8.2 B8 = true := by kernel_rfl
section
variable {w W : World} {cs : List Bk} {rs : List It}
theorem specJ {a b a' b' c c' n n' : Nat} {A A' : Option Addr} {l l' R : List Int} {o o' ro rb : Bool} (k : Nat) (h : spec_JoinGraphs.f k l o l' o' = some (R, ro, rb)) (hM : M w cs rs W) (m1 : row w.heap.size a b (.slice A n c) l ∈ rs) (m2 : row w.heap.size a' b' (.slice A' n' c') l' ∈ rs) :
    Calls Try.prog 8 #[.agg #[.slice A n c, .bool o], .agg #[.slice A' n' c', .bool o']] W fun e w' => ∃ A c a b, e = .returned (.tuple #[.agg #[.slice A R.length c, .bool ro], .bool rb]) ∧ M w cs (row w.heap.size a b (.slice A R.length c) R :: rs) w' := by
  obtain ⟨e1, h1, h2⟩ := hM.reads m1
  obtain ⟨e2, h3, h4⟩ := hM.reads m2
  rw [e1] at h1
  rw [e2] at h3
  rw [e1, e2]
  refine (spec_JoinGraphs.calls k A c l o A' c' l' o' R ro rb W h2 h1 h4 h3 h).mono ?_
  rintro e w' ⟨v, rfl, hR, hb⟩
  obtain ⟨A', c', rfl⟩ := Kd.R_slice hR
  exact ⟨A', c', _, _, rfl, hM.rowc hR hb⟩
theorem implJ {a b a' b' c c' n n' : Nat} {A A' : Option Addr} {l l' R : List Int} {o o' ro rb : Bool} (k : Nat) (h : impl_JoinGraphs.f k l o l' o' = some (R, ro, rb)) (hM : M w cs rs W) (m1 : row w.heap.size a b (.slice A n c) l ∈ rs) (m2 : row w.heap.size a' b' (.slice A' n' c') l' ∈ rs) :
    Calls Try.prog 10 #[.agg #[.slice A n c, .bool o], .agg #[.slice A' n' c', .bool o']] W fun e w' => ∃ A c a b, e = .returned (.tuple #[.agg #[.slice A R.length c, .bool ro], .bool rb]) ∧ M w cs (row w.heap.size a b (.slice A R.length c) R :: rs) w' := by
  obtain ⟨e1, h1, h2⟩ := hM.reads m1
  obtain ⟨e2, h3, h4⟩ := hM.reads m2
  rw [e1] at h1
  rw [e2] at h3
  rw [e1, e2]
  refine (impl_JoinGraphs.calls k A c l o A' c' l' o' R ro rb W h2 h1 h4 h3 h).mono ?_
  rintro e w' ⟨v, rfl, hR, hb⟩
  obtain ⟨A', c', rfl⟩ := Kd.R_slice hR
  exact ⟨A', c', _, _, rfl, hM.rowc hR hb⟩
end
section
variable (A0 : Option Addr) (c0 : Nat) (l0 : List Int) (o0 : Bool) (A1 : Option Addr) (c1 : Nat) (l1 : List Int) (o1 : Bool) (w : World)
set_option maxRecDepth 100000 in
set_option maxHeartbeats 8000000 in
theorem main (t1 t2 : Int) (hC0 : ki.C w A0 l0.length l0) (hc0 : l0.length ≤ c0) (hC1 : ki.C w A1 l1.length l1) (hc1 : l1.length ≤ c1)
    (h1 : laws_szGraph.f l0 o0 1048576 = some t1) (hp : ¬ t1 < 0) (h2 : laws_szGraph.f l1 o1 t1 = some t2) (hp2 : ¬ t2 < 0)
    (k : Nat) (R R' L0 L1 : List Int) (ro rb : Bool) (m1 m2 m : Int)
    (t0 : laws_toGraph.f k l0 o0 = some (l0, o0)) (t1' : laws_toGraph.f k l1 o1 = some (l1, o1)) (hS : spec_JoinGraphs.f k l0 o0 l1 o1 = some (R, ro, rb)) (hI : impl_JoinGraphs.f k l0 o0 l1 o1 = some (R, ro, rb))
    (q0 : laws_eqGraph.f k l0 o0 l0 o0 = some true) (q1 : laws_eqGraph.f k l1 o1 l1 o1 = some true) (qR : laws_eqGraph.f k R ro R ro = some true)
    (k0 : laws_markGraph.f k l0 o0 1 = some (m1, L0)) (k1 : laws_markGraph.f k l1 o1 m1 = some (m2, L1)) (hm2 : ¬ m2 < 0) (kR : laws_markGraph.f k R ro 1 = some (m, R')) (hh : laws_heldGraph.f k R' ro 1 = some m) (hm : ¬ m < 0) :
    Calls Try.prog 3 #[.agg #[.slice A0 l0.length c0, .bool o0], .agg #[.slice A1 l1.length c1, .bool o1]] w fun e w' => e = .returned (.bool true) ∧ Below w.heap.size w w' := by
  have hu24 := Try.underlying24
  have hu26 := Try.underlying26
  have HC0 := Aside0.mk hC0
  have HC1 := Aside0.mk hC1
  have hd1 : decide (t1 < 0) = false := decide_eq_false hp
  have hd2 : decide (t2 < 0) = false := decide_eq_false hp2
  have hd3 : decide (m2 < 0) = false := decide_eq_false hm2
  have hd4 : decide (m < 0) = false := decide_eq_false hm
  have hM := M.start w
  clear hC0 hC1
  go_enter Try.func3, Try.ntmps3
  go_upto_region 2 with (first
    | ((with_reducible refine gate_dst (N := 2) rfl ?_); refine box_event ?hg (N := 2) ?hd (cs := #[.slice A0 l0.length c0, .bool o0]) (t := 24) ?hr ?_; (case hd => rfl); (case hg => rfl); (case hr => first | (go_simp; done) | (go_simp; rfl)); intro g2 hg w1 hbox hb; replace hM := hM.box hg hbox hb; clear hg hbox hb)
    | ((with_reducible refine gate_dst (N := 3) rfl ?_); refine box_event ?hg (N := 3) ?hd (cs := #[.slice A1 l1.length c1, .bool o1]) (t := 24) ?hr ?_; (case hd => rfl); (case hg => rfl); (case hr => first | (go_simp; done) | (go_simp; rfl)); intro g3 hg w2 hbox hb; replace hM := hM.box hg hbox hb; clear hg hbox hb))
  have hz_g2_0 : w2.cell? ⟨g2, 0, none⟩ = some (.slice A0 l0.length c0) := hM.cell (t := 24) (xs := #[.slice A0 l0.length c0, .bool o0]) (List.mem_cons_of_mem _ (List.mem_cons_self ..)) 0
  have hz_g2_1 : w2.cell? ⟨g2, 1, none⟩ = some (.bool o0) := hM.cell (t := 24) (xs := #[.slice A0 l0.length c0, .bool o0]) (List.mem_cons_of_mem _ (List.mem_cons_self ..)) 1
  go_upto_region 5 with (first
    | (go_at_call 7; refine (szG HC0.out hc0 h1 hM).mono ?_; clear hM hz_g2_0 hz_g2_1; rintro e w3 ⟨rfl, hM⟩))
  have hz_g3_0 : w3.cell? ⟨g3, 0, none⟩ = some (.slice A1 l1.length c1) := hM.cell (t := 24) (xs := #[.slice A1 l1.length c1, .bool o1]) (List.mem_cons_self ..) 0
  have hz_g3_1 : w3.cell? ⟨g3, 1, none⟩ = some (.bool o1) := hM.cell (t := 24) (xs := #[.slice A1 l1.length c1, .bool o1]) (List.mem_cons_self ..) 1
  go_upto_region 8 with (first
    | (go_at_call 7; refine (szG HC1.out hc1 h2 hM).mono ?_; clear hM hz_g3_0 hz_g3_1; rintro e w4 ⟨rfl, hM⟩))
  replace hM := hM.drew
  refine start_ (n := 11) (S := fun w' => w'.cell? ⟨g2, 0, none⟩ = some (.slice A0 l0.length c0) ∧ w'.cell? ⟨g2, 1, none⟩ = some (.bool o0) ∧ w'.cell? ⟨g3, 0, none⟩ = some (.slice A1 l1.length c1) ∧ w'.cell? ⟨g3, 1, none⟩ = some (.bool o1)) (ds := []) #[false, false, false, false, false, false, false, false, false, false, false] (by kernel_rfl) rfl rfl ⟨hM.cell (t := 24) (xs := #[.slice A0 l0.length c0, .bool o0]) (List.mem_cons_of_mem _ (List.mem_cons_self ..)) 0, hM.cell (t := 24) (xs := #[.slice A0 l0.length c0, .bool o0]) (List.mem_cons_of_mem _ (List.mem_cons_self ..)) 1, hM.cell (t := 24) (xs := #[.slice A1 l1.length c1, .bool o1]) (List.mem_cons_self ..) 0, hM.cell (t := 24) (xs := #[.slice A1 l1.length c1, .bool o1]) (List.mem_cons_self ..) 1⟩ (fun hHeld => ?_); refine with_tabW tab8 bits8 (fun HT_ HW_ => ?_)
  generalize w4.drew = w8 at hM hHeld ⊢
  refine take_ (i := 0) (N := some 28) (v := ?_) (a' := ?_) #[true, false, false, false, false, false, false, false, false, false, false] rfl rfl (take_ofW HT_.out HW_.out (by kernel_rfl)) (fun _ _ _ h => h) (Or.inl ⟨by rfl, ?_⟩) hHeld ?_ ?_
  rotate_left
  · rintro w' ⟨s0, s1, s2, s3⟩
    go_simp
    with_reducible rfl
  rotate_left
  · simp only [Act.put, List.setIfInBounds_toArray, List.set_cons_zero, List.set_cons_succ, i64_w, i32_w]
    rfl
  refine take_ (i := 2) (N := some 30) (v := ?_) (a' := ?_) #[true, false, true, false, false, false, false, false, false, false, false] rfl rfl (take_ofW HT_.out HW_.out (by kernel_rfl)) (fun _ _ _ h => h) (Or.inl ⟨by rfl, ?_⟩) hHeld ?_ ?_
  rotate_left
  · rintro w' ⟨s0, s1, s2, s3⟩
    go_simp
    with_reducible rfl
  rotate_left
  · simp only [Act.put, List.setIfInBounds_toArray, List.set_cons_zero, List.set_cons_succ, i64_w, i32_w]
    rfl
  refine join_ (σ := Rn × Rn × Rn × Nat) 2 #[true, true, true, true, true, true, true, true, true, false, false] (fun s_ => [(29, .agg #[.slice s_.1.A l0.length s_.1.c, .bool o0]), (31, .agg #[.slice s_.2.1.A l1.length s_.2.1.c, .bool o1]), (32, .tuple #[.agg #[.slice s_.2.2.1.A R.length s_.2.2.1.c, .bool ro], .bool rb]), (27, .tuple #[.agg #[.slice s_.2.2.1.A R.length s_.2.2.1.c, .bool ro], .bool rb]), (33, .agg #[.slice s_.2.2.1.A R.length s_.2.2.1.c, .bool ro]), (34, .bool rb), (6, .pointer (some ⟨s_.2.2.2, 0, none⟩))]) (fun s_ w' => (w'.cell? ⟨g2, 0, none⟩ = some (.slice A0 l0.length c0) ∧ w'.cell? ⟨g2, 1, none⟩ = some (.bool o0) ∧ w'.cell? ⟨g3, 0, none⟩ = some (.slice A1 l1.length c1) ∧ w'.cell? ⟨g3, 1, none⟩ = some (.bool o1)) ∧ M w [⟨s_.2.2.2, #[.slice none 0 0, .bool false], 26⟩, ⟨g3, #[.slice A1 l1.length c1, .bool o1], 24⟩, ⟨g2, #[.slice A0 l0.length c0, .bool o0], 24⟩] [row w.heap.size s_.2.2.1.a s_.2.2.1.b (.slice s_.2.2.1.A R.length s_.2.2.1.c) R, row w.heap.size s_.2.1.a s_.2.1.b (.slice s_.2.1.A l1.length s_.2.1.c) l1, row w.heap.size s_.1.a s_.1.b (.slice s_.1.A l0.length s_.1.c) l0] w') ?_ ?_
  rotate_left
  · intro hCont
    refine two_ (i := 1) (j := 8) (Ni := some 29) (Nj := some 6) #[true, true, true, false, false, false, false, false, false, false, false] #[true, false, true, false, false, false, false, false, true, false, false] rfl rfl rfl rfl (two_of HT_.out (by kernel_rfl)) (by decide) (by decide) (fun K hK => ?_) (fun K hK => ?_)
    · skip
      refine goes_ Try.func9 (by kernel_rfl) rfl #[.agg #[.slice A0 l0.length c0, .bool o0]] (by rfl) rfl rfl (by (try simp only [List.map_toArray, List.map_cons, List.map_nil]); first | done | rfl | (simp only [List.length_drop, List.length_take]; rfl)) ?_
      refine (toG k HC0.out hc0 t0 hM).mono ?_
      clear hM hHeld
      rintro e w9 ⟨Ax5, cx5, ax5, bx5, rfl, hM⟩
      refine ⟨_, rfl, ?_⟩
      refine hK.out _ _ ⟨hM.cell (t := 24) (xs := #[.slice A0 l0.length c0, .bool o0]) (List.mem_cons_of_mem _ (List.mem_cons_self ..)) 0, hM.cell (t := 24) (xs := #[.slice A0 l0.length c0, .bool o0]) (List.mem_cons_of_mem _ (List.mem_cons_self ..)) 1, hM.cell (t := 24) (xs := #[.slice A1 l1.length c1, .bool o1]) (List.mem_cons_self ..) 0, hM.cell (t := 24) (xs := #[.slice A1 l1.length c1, .bool o1]) (List.mem_cons_self ..) 1⟩ (fun hHeld => ?_)
      clear hK K
      refine norm_ (a' := ?_) ?_ ?_
      rotate_left
      · show Act.put _ (some 29) _ = _
        simp only [Act.put, List.setIfInBounds_toArray, List.set_cons_zero, List.set_cons_succ, i64_w, i32_w]
        rfl
      refine two_ (i := 3) (j := 8) (Ni := some 31) (Nj := some 6) #[true, true, true, true, false, false, false, false, false, false, false] #[true, true, true, false, false, false, false, false, true, false, false] rfl rfl rfl rfl (two_of HT_.out (by kernel_rfl)) (by decide) (by decide) (fun K hK => ?_) (fun K hK => ?_)
      · skip
        refine goes_ Try.func9 (by kernel_rfl) rfl #[.agg #[.slice A1 l1.length c1, .bool o1]] (by rfl) rfl rfl (by (try simp only [List.map_toArray, List.map_cons, List.map_nil]); first | done | rfl | (simp only [List.length_drop, List.length_take]; rfl)) ?_
        refine (toG k HC1.out hc1 t1' hM).mono ?_
        clear hM hHeld
        rintro e w10 ⟨Ay6, cy6, ay6, by6, rfl, hM⟩
        refine ⟨_, rfl, ?_⟩
        refine hK.out _ _ ⟨hM.cell (t := 24) (xs := #[.slice A0 l0.length c0, .bool o0]) (List.mem_cons_of_mem _ (List.mem_cons_self ..)) 0, hM.cell (t := 24) (xs := #[.slice A0 l0.length c0, .bool o0]) (List.mem_cons_of_mem _ (List.mem_cons_self ..)) 1, hM.cell (t := 24) (xs := #[.slice A1 l1.length c1, .bool o1]) (List.mem_cons_self ..) 0, hM.cell (t := 24) (xs := #[.slice A1 l1.length c1, .bool o1]) (List.mem_cons_self ..) 1⟩ (fun hHeld => ?_)
        clear hK K
        refine norm_ (a' := ?_) ?_ ?_
        rotate_left
        · show Act.put _ (some 31) _ = _
          simp only [Act.put, List.setIfInBounds_toArray, List.set_cons_zero, List.set_cons_succ, i64_w, i32_w]
          rfl
        refine two_ (i := 4) (j := 8) (Ni := some 32) (Nj := some 6) #[true, true, true, true, true, false, false, false, false, false, false] #[true, true, true, true, false, false, false, false, true, false, false] rfl rfl rfl rfl (two_of HT_.out (by kernel_rfl)) (by decide) (by decide) (fun K hK => ?_) (fun K hK => ?_)
        · skip
          refine goes_ Try.func8 (by kernel_rfl) rfl #[.agg #[.slice Ax5 l0.length cx5, .bool o0], .agg #[.slice Ay6 l1.length cy6, .bool o1]] (by rfl) rfl rfl (by (try simp only [List.map_toArray, List.map_cons, List.map_nil]); first | done | rfl | (simp only [List.length_drop, List.length_take]; rfl)) ?_
          refine (specJ k hS hM (List.mem_cons_of_mem _ (List.mem_cons_self ..)) (List.mem_cons_self ..)).mono ?_
          clear hM hHeld
          rintro e w11 ⟨Az7, cz7, az7, bz7, rfl, hM⟩
          refine ⟨_, rfl, ?_⟩
          refine hK.out _ _ ⟨hM.cell (t := 24) (xs := #[.slice A0 l0.length c0, .bool o0]) (List.mem_cons_of_mem _ (List.mem_cons_self ..)) 0, hM.cell (t := 24) (xs := #[.slice A0 l0.length c0, .bool o0]) (List.mem_cons_of_mem _ (List.mem_cons_self ..)) 1, hM.cell (t := 24) (xs := #[.slice A1 l1.length c1, .bool o1]) (List.mem_cons_self ..) 0, hM.cell (t := 24) (xs := #[.slice A1 l1.length c1, .bool o1]) (List.mem_cons_self ..) 1⟩ (fun hHeld => ?_)
          clear hK K
          refine norm_ (a' := ?_) ?_ ?_
          rotate_left
          · show Act.put _ (some 32) _ = _
            simp only [Act.put, List.setIfInBounds_toArray, List.set_cons_zero, List.set_cons_succ, i64_w, i32_w]
            rfl
          refine pure_ (i := 5) (N := some 27) (v := ?_) (a' := ?_) #[true, true, true, true, true, true, false, false, false, false, false] rfl rfl (any_of HT_.out (by kernel_rfl)) (fun _ _ _ h => h) (Or.inl ⟨by rfl, ?_⟩) ?_ ?_
          rotate_left
          · intro w'
            go_simp
            with_reducible rfl
          rotate_left
          · simp only [Act.put, List.setIfInBounds_toArray, List.set_cons_zero, List.set_cons_succ, i64_w, i32_w]
            rfl
          refine pure_ (i := 6) (N := some 33) (v := ?_) (a' := ?_) #[true, true, true, true, true, true, true, false, false, false, false] rfl rfl (any_of HT_.out (by kernel_rfl)) (fun _ _ _ h => h) (Or.inl ⟨by rfl, ?_⟩) ?_ ?_
          rotate_left
          · intro w'
            go_simp
            with_reducible rfl
          rotate_left
          · simp only [Act.put, List.setIfInBounds_toArray, List.set_cons_zero, List.set_cons_succ, i64_w, i32_w]
            rfl
          refine pure_ (i := 7) (N := some 34) (v := ?_) (a' := ?_) #[true, true, true, true, true, true, true, true, false, false, false] rfl rfl (any_of HT_.out (by kernel_rfl)) (fun _ _ _ h => h) (Or.inl ⟨by rfl, ?_⟩) ?_ ?_
          rotate_left
          · intro w'
            go_simp
            with_reducible rfl
          rotate_left
          · simp only [Act.put, List.setIfInBounds_toArray, List.set_cons_zero, List.set_cons_succ, i64_w, i32_w]
            rfl
          refine one_ (i := 8) (N := some 6) #[true, true, true, true, true, true, true, true, true, false, false] rfl rfl (one_of HT_.out (by kernel_rfl)) (by decide) (fun K hK => ?_)
          refine box_step ?hg (N := 6) ?hd (cs := #[.slice none 0 0, .bool false]) (t := 26) ?hr ?_; (case hd => rfl); (case hg => rfl); (case hr => first | (go_simp; done) | (go_simp; rfl))
          intro g6 hg w12 hbox hb
          replace hM := hM.box hg hbox hb
          clear hg hbox hb hHeld
          refine hK.out _ _ ⟨hM.cell (t := 24) (xs := #[.slice A0 l0.length c0, .bool o0]) (List.mem_cons_of_mem _ (List.mem_cons_of_mem _ (List.mem_cons_self ..))) 0, hM.cell (t := 24) (xs := #[.slice A0 l0.length c0, .bool o0]) (List.mem_cons_of_mem _ (List.mem_cons_of_mem _ (List.mem_cons_self ..))) 1, hM.cell (t := 24) (xs := #[.slice A1 l1.length c1, .bool o1]) (List.mem_cons_of_mem _ (List.mem_cons_self ..)) 0, hM.cell (t := 24) (xs := #[.slice A1 l1.length c1, .bool o1]) (List.mem_cons_of_mem _ (List.mem_cons_self ..)) 1⟩ (fun hHeld => ?_)
          clear hK K
          refine norm_ (a' := ?_) ?_ ?_
          rotate_left
          · show Act.put _ (some 6) _ = _
            simp only [Act.put, List.setIfInBounds_toArray, List.set_cons_zero, List.set_cons_succ, i64_w, i32_w]
            rfl
          exact norm_ (by simp only [putAll, Act.put, List.setIfInBounds_toArray, List.set_cons_zero, List.set_cons_succ]) (hCont (⟨Ax5, cx5, ax5, bx5⟩, ⟨Ay6, cy6, ay6, by6⟩, ⟨Az7, cz7, az7, bz7⟩, g6) _ ⟨hHeld, hM⟩)
        · skip
          refine box_step ?hg (N := 6) ?hd (cs := #[.slice none 0 0, .bool false]) (t := 26) ?hr ?_; (case hd => rfl); (case hg => rfl); (case hr => first | (go_simp; done) | (go_simp; rfl))
          intro g6 hg w13 hbox hb
          replace hM := hM.box hg hbox hb
          clear hg hbox hb hHeld
          refine hK.out _ _ ⟨hM.cell (t := 24) (xs := #[.slice A0 l0.length c0, .bool o0]) (List.mem_cons_of_mem _ (List.mem_cons_of_mem _ (List.mem_cons_self ..))) 0, hM.cell (t := 24) (xs := #[.slice A0 l0.length c0, .bool o0]) (List.mem_cons_of_mem _ (List.mem_cons_of_mem _ (List.mem_cons_self ..))) 1, hM.cell (t := 24) (xs := #[.slice A1 l1.length c1, .bool o1]) (List.mem_cons_of_mem _ (List.mem_cons_self ..)) 0, hM.cell (t := 24) (xs := #[.slice A1 l1.length c1, .bool o1]) (List.mem_cons_of_mem _ (List.mem_cons_self ..)) 1⟩ (fun hHeld => ?_)
          clear hK K
          refine norm_ (a' := ?_) ?_ ?_
          rotate_left
          · show Act.put _ (some 6) _ = _
            simp only [Act.put, List.setIfInBounds_toArray, List.set_cons_zero, List.set_cons_succ, i64_w, i32_w]
            rfl
          refine one_ (i := 4) (N := some 32) #[true, true, true, true, true, false, false, false, true, false, false] rfl rfl (one_of HT_.out (by kernel_rfl)) (by decide) (fun K hK => ?_)
          refine goes_ Try.func8 (by kernel_rfl) rfl #[.agg #[.slice Ax5 l0.length cx5, .bool o0], .agg #[.slice Ay6 l1.length cy6, .bool o1]] (by rfl) rfl rfl (by (try simp only [List.map_toArray, List.map_cons, List.map_nil]); first | done | rfl | (simp only [List.length_drop, List.length_take]; rfl)) ?_
          refine (specJ k hS hM (List.mem_cons_of_mem _ (List.mem_cons_self ..)) (List.mem_cons_self ..)).mono ?_
          clear hM hHeld
          rintro e w14 ⟨Az7, cz7, az7, bz7, rfl, hM⟩
          refine ⟨_, rfl, ?_⟩
          refine hK.out _ _ ⟨hM.cell (t := 24) (xs := #[.slice A0 l0.length c0, .bool o0]) (List.mem_cons_of_mem _ (List.mem_cons_of_mem _ (List.mem_cons_self ..))) 0, hM.cell (t := 24) (xs := #[.slice A0 l0.length c0, .bool o0]) (List.mem_cons_of_mem _ (List.mem_cons_of_mem _ (List.mem_cons_self ..))) 1, hM.cell (t := 24) (xs := #[.slice A1 l1.length c1, .bool o1]) (List.mem_cons_of_mem _ (List.mem_cons_self ..)) 0, hM.cell (t := 24) (xs := #[.slice A1 l1.length c1, .bool o1]) (List.mem_cons_of_mem _ (List.mem_cons_self ..)) 1⟩ (fun hHeld => ?_)
          clear hK K
          refine norm_ (a' := ?_) ?_ ?_
          rotate_left
          · show Act.put _ (some 32) _ = _
            simp only [Act.put, List.setIfInBounds_toArray, List.set_cons_zero, List.set_cons_succ, i64_w, i32_w]
            rfl
          refine pure_ (i := 5) (N := some 27) (v := ?_) (a' := ?_) #[true, true, true, true, true, true, false, false, true, false, false] rfl rfl (any_of HT_.out (by kernel_rfl)) (fun _ _ _ h => h) (Or.inl ⟨by rfl, ?_⟩) ?_ ?_
          rotate_left
          · intro w'
            go_simp
            with_reducible rfl
          rotate_left
          · simp only [Act.put, List.setIfInBounds_toArray, List.set_cons_zero, List.set_cons_succ, i64_w, i32_w]
            rfl
          refine pure_ (i := 6) (N := some 33) (v := ?_) (a' := ?_) #[true, true, true, true, true, true, true, false, true, false, false] rfl rfl (any_of HT_.out (by kernel_rfl)) (fun _ _ _ h => h) (Or.inl ⟨by rfl, ?_⟩) ?_ ?_
          rotate_left
          · intro w'
            go_simp
            with_reducible rfl
          rotate_left
          · simp only [Act.put, List.setIfInBounds_toArray, List.set_cons_zero, List.set_cons_succ, i64_w, i32_w]
            rfl
          refine pure_ (i := 7) (N := some 34) (v := ?_) (a' := ?_) #[true, true, true, true, true, true, true, true, true, false, false] rfl rfl (any_of HT_.out (by kernel_rfl)) (fun _ _ _ h => h) (Or.inl ⟨by rfl, ?_⟩) ?_ ?_
          rotate_left
          · intro w'
            go_simp
            with_reducible rfl
          rotate_left
          · simp only [Act.put, List.setIfInBounds_toArray, List.set_cons_zero, List.set_cons_succ, i64_w, i32_w]
            rfl
          exact norm_ (by simp only [putAll, Act.put, List.setIfInBounds_toArray, List.set_cons_zero, List.set_cons_succ]) (hCont (⟨Ax5, cx5, ax5, bx5⟩, ⟨Ay6, cy6, ay6, by6⟩, ⟨Az7, cz7, az7, bz7⟩, g6) _ ⟨hHeld, hM⟩)
      · skip
        refine box_step ?hg (N := 6) ?hd (cs := #[.slice none 0 0, .bool false]) (t := 26) ?hr ?_; (case hd => rfl); (case hg => rfl); (case hr => first | (go_simp; done) | (go_simp; rfl))
        intro g6 hg w15 hbox hb
        replace hM := hM.box hg hbox hb
        clear hg hbox hb hHeld
        refine hK.out _ _ ⟨hM.cell (t := 24) (xs := #[.slice A0 l0.length c0, .bool o0]) (List.mem_cons_of_mem _ (List.mem_cons_of_mem _ (List.mem_cons_self ..))) 0, hM.cell (t := 24) (xs := #[.slice A0 l0.length c0, .bool o0]) (List.mem_cons_of_mem _ (List.mem_cons_of_mem _ (List.mem_cons_self ..))) 1, hM.cell (t := 24) (xs := #[.slice A1 l1.length c1, .bool o1]) (List.mem_cons_of_mem _ (List.mem_cons_self ..)) 0, hM.cell (t := 24) (xs := #[.slice A1 l1.length c1, .bool o1]) (List.mem_cons_of_mem _ (List.mem_cons_self ..)) 1⟩ (fun hHeld => ?_)
        clear hK K
        refine norm_ (a' := ?_) ?_ ?_
        rotate_left
        · show Act.put _ (some 6) _ = _
          simp only [Act.put, List.setIfInBounds_toArray, List.set_cons_zero, List.set_cons_succ, i64_w, i32_w]
          rfl
        refine one_ (i := 3) (N := some 31) #[true, true, true, true, false, false, false, false, true, false, false] rfl rfl (one_of HT_.out (by kernel_rfl)) (by decide) (fun K hK => ?_)
        refine goes_ Try.func9 (by kernel_rfl) rfl #[.agg #[.slice A1 l1.length c1, .bool o1]] (by rfl) rfl rfl (by (try simp only [List.map_toArray, List.map_cons, List.map_nil]); first | done | rfl | (simp only [List.length_drop, List.length_take]; rfl)) ?_
        refine (toG k HC1.out hc1 t1' hM).mono ?_
        clear hM hHeld
        rintro e w16 ⟨Ay6, cy6, ay6, by6, rfl, hM⟩
        refine ⟨_, rfl, ?_⟩
        refine hK.out _ _ ⟨hM.cell (t := 24) (xs := #[.slice A0 l0.length c0, .bool o0]) (List.mem_cons_of_mem _ (List.mem_cons_of_mem _ (List.mem_cons_self ..))) 0, hM.cell (t := 24) (xs := #[.slice A0 l0.length c0, .bool o0]) (List.mem_cons_of_mem _ (List.mem_cons_of_mem _ (List.mem_cons_self ..))) 1, hM.cell (t := 24) (xs := #[.slice A1 l1.length c1, .bool o1]) (List.mem_cons_of_mem _ (List.mem_cons_self ..)) 0, hM.cell (t := 24) (xs := #[.slice A1 l1.length c1, .bool o1]) (List.mem_cons_of_mem _ (List.mem_cons_self ..)) 1⟩ (fun hHeld => ?_)
        clear hK K
        refine norm_ (a' := ?_) ?_ ?_
        rotate_left
        · show Act.put _ (some 31) _ = _
          simp only [Act.put, List.setIfInBounds_toArray, List.set_cons_zero, List.set_cons_succ, i64_w, i32_w]
          rfl
        refine one_ (i := 4) (N := some 32) #[true, true, true, true, true, false, false, false, true, false, false] rfl rfl (one_of HT_.out (by kernel_rfl)) (by decide) (fun K hK => ?_)
        refine goes_ Try.func8 (by kernel_rfl) rfl #[.agg #[.slice Ax5 l0.length cx5, .bool o0], .agg #[.slice Ay6 l1.length cy6, .bool o1]] (by rfl) rfl rfl (by (try simp only [List.map_toArray, List.map_cons, List.map_nil]); first | done | rfl | (simp only [List.length_drop, List.length_take]; rfl)) ?_
        refine (specJ k hS hM (List.mem_cons_of_mem _ (List.mem_cons_self ..)) (List.mem_cons_self ..)).mono ?_
        clear hM hHeld
        rintro e w17 ⟨Az7, cz7, az7, bz7, rfl, hM⟩
        refine ⟨_, rfl, ?_⟩
        refine hK.out _ _ ⟨hM.cell (t := 24) (xs := #[.slice A0 l0.length c0, .bool o0]) (List.mem_cons_of_mem _ (List.mem_cons_of_mem _ (List.mem_cons_self ..))) 0, hM.cell (t := 24) (xs := #[.slice A0 l0.length c0, .bool o0]) (List.mem_cons_of_mem _ (List.mem_cons_of_mem _ (List.mem_cons_self ..))) 1, hM.cell (t := 24) (xs := #[.slice A1 l1.length c1, .bool o1]) (List.mem_cons_of_mem _ (List.mem_cons_self ..)) 0, hM.cell (t := 24) (xs := #[.slice A1 l1.length c1, .bool o1]) (List.mem_cons_of_mem _ (List.mem_cons_self ..)) 1⟩ (fun hHeld => ?_)
        clear hK K
        refine norm_ (a' := ?_) ?_ ?_
        rotate_left
        · show Act.put _ (some 32) _ = _
          simp only [Act.put, List.setIfInBounds_toArray, List.set_cons_zero, List.set_cons_succ, i64_w, i32_w]
          rfl
        refine pure_ (i := 5) (N := some 27) (v := ?_) (a' := ?_) #[true, true, true, true, true, true, false, false, true, false, false] rfl rfl (any_of HT_.out (by kernel_rfl)) (fun _ _ _ h => h) (Or.inl ⟨by rfl, ?_⟩) ?_ ?_
        rotate_left
        · intro w'
          go_simp
          with_reducible rfl
        rotate_left
        · simp only [Act.put, List.setIfInBounds_toArray, List.set_cons_zero, List.set_cons_succ, i64_w, i32_w]
          rfl
        refine pure_ (i := 6) (N := some 33) (v := ?_) (a' := ?_) #[true, true, true, true, true, true, true, false, true, false, false] rfl rfl (any_of HT_.out (by kernel_rfl)) (fun _ _ _ h => h) (Or.inl ⟨by rfl, ?_⟩) ?_ ?_
        rotate_left
        · intro w'
          go_simp
          with_reducible rfl
        rotate_left
        · simp only [Act.put, List.setIfInBounds_toArray, List.set_cons_zero, List.set_cons_succ, i64_w, i32_w]
          rfl
        refine pure_ (i := 7) (N := some 34) (v := ?_) (a' := ?_) #[true, true, true, true, true, true, true, true, true, false, false] rfl rfl (any_of HT_.out (by kernel_rfl)) (fun _ _ _ h => h) (Or.inl ⟨by rfl, ?_⟩) ?_ ?_
        rotate_left
        · intro w'
          go_simp
          with_reducible rfl
        rotate_left
        · simp only [Act.put, List.setIfInBounds_toArray, List.set_cons_zero, List.set_cons_succ, i64_w, i32_w]
          rfl
        exact norm_ (by simp only [putAll, Act.put, List.setIfInBounds_toArray, List.set_cons_zero, List.set_cons_succ]) (hCont (⟨Ax5, cx5, ax5, bx5⟩, ⟨Ay6, cy6, ay6, by6⟩, ⟨Az7, cz7, az7, bz7⟩, g6) _ ⟨hHeld, hM⟩)
    · skip
      refine box_step ?hg (N := 6) ?hd (cs := #[.slice none 0 0, .bool false]) (t := 26) ?hr ?_; (case hd => rfl); (case hg => rfl); (case hr => first | (go_simp; done) | (go_simp; rfl))
      intro g6 hg w18 hbox hb
      replace hM := hM.box hg hbox hb
      clear hg hbox hb hHeld
      refine hK.out _ _ ⟨hM.cell (t := 24) (xs := #[.slice A0 l0.length c0, .bool o0]) (List.mem_cons_of_mem _ (List.mem_cons_of_mem _ (List.mem_cons_self ..))) 0, hM.cell (t := 24) (xs := #[.slice A0 l0.length c0, .bool o0]) (List.mem_cons_of_mem _ (List.mem_cons_of_mem _ (List.mem_cons_self ..))) 1, hM.cell (t := 24) (xs := #[.slice A1 l1.length c1, .bool o1]) (List.mem_cons_of_mem _ (List.mem_cons_self ..)) 0, hM.cell (t := 24) (xs := #[.slice A1 l1.length c1, .bool o1]) (List.mem_cons_of_mem _ (List.mem_cons_self ..)) 1⟩ (fun hHeld => ?_)
      clear hK K
      refine norm_ (a' := ?_) ?_ ?_
      rotate_left
      · show Act.put _ (some 6) _ = _
        simp only [Act.put, List.setIfInBounds_toArray, List.set_cons_zero, List.set_cons_succ, i64_w, i32_w]
        rfl
      refine one_ (i := 1) (N := some 29) #[true, true, true, false, false, false, false, false, true, false, false] rfl rfl (one_of HT_.out (by kernel_rfl)) (by decide) (fun K hK => ?_)
      refine goes_ Try.func9 (by kernel_rfl) rfl #[.agg #[.slice A0 l0.length c0, .bool o0]] (by rfl) rfl rfl (by (try simp only [List.map_toArray, List.map_cons, List.map_nil]); first | done | rfl | (simp only [List.length_drop, List.length_take]; rfl)) ?_
      refine (toG k HC0.out hc0 t0 hM).mono ?_
      clear hM hHeld
      rintro e w19 ⟨Ax5, cx5, ax5, bx5, rfl, hM⟩
      refine ⟨_, rfl, ?_⟩
      refine hK.out _ _ ⟨hM.cell (t := 24) (xs := #[.slice A0 l0.length c0, .bool o0]) (List.mem_cons_of_mem _ (List.mem_cons_of_mem _ (List.mem_cons_self ..))) 0, hM.cell (t := 24) (xs := #[.slice A0 l0.length c0, .bool o0]) (List.mem_cons_of_mem _ (List.mem_cons_of_mem _ (List.mem_cons_self ..))) 1, hM.cell (t := 24) (xs := #[.slice A1 l1.length c1, .bool o1]) (List.mem_cons_of_mem _ (List.mem_cons_self ..)) 0, hM.cell (t := 24) (xs := #[.slice A1 l1.length c1, .bool o1]) (List.mem_cons_of_mem _ (List.mem_cons_self ..)) 1⟩ (fun hHeld => ?_)
      clear hK K
      refine norm_ (a' := ?_) ?_ ?_
      rotate_left
      · show Act.put _ (some 29) _ = _
        simp only [Act.put, List.setIfInBounds_toArray, List.set_cons_zero, List.set_cons_succ, i64_w, i32_w]
        rfl
      refine one_ (i := 3) (N := some 31) #[true, true, true, true, false, false, false, false, true, false, false] rfl rfl (one_of HT_.out (by kernel_rfl)) (by decide) (fun K hK => ?_)
      refine goes_ Try.func9 (by kernel_rfl) rfl #[.agg #[.slice A1 l1.length c1, .bool o1]] (by rfl) rfl rfl (by (try simp only [List.map_toArray, List.map_cons, List.map_nil]); first | done | rfl | (simp only [List.length_drop, List.length_take]; rfl)) ?_
      refine (toG k HC1.out hc1 t1' hM).mono ?_
      clear hM hHeld
      rintro e w20 ⟨Ay6, cy6, ay6, by6, rfl, hM⟩
      refine ⟨_, rfl, ?_⟩
      refine hK.out _ _ ⟨hM.cell (t := 24) (xs := #[.slice A0 l0.length c0, .bool o0]) (List.mem_cons_of_mem _ (List.mem_cons_of_mem _ (List.mem_cons_self ..))) 0, hM.cell (t := 24) (xs := #[.slice A0 l0.length c0, .bool o0]) (List.mem_cons_of_mem _ (List.mem_cons_of_mem _ (List.mem_cons_self ..))) 1, hM.cell (t := 24) (xs := #[.slice A1 l1.length c1, .bool o1]) (List.mem_cons_of_mem _ (List.mem_cons_self ..)) 0, hM.cell (t := 24) (xs := #[.slice A1 l1.length c1, .bool o1]) (List.mem_cons_of_mem _ (List.mem_cons_self ..)) 1⟩ (fun hHeld => ?_)
      clear hK K
      refine norm_ (a' := ?_) ?_ ?_
      rotate_left
      · show Act.put _ (some 31) _ = _
        simp only [Act.put, List.setIfInBounds_toArray, List.set_cons_zero, List.set_cons_succ, i64_w, i32_w]
        rfl
      refine one_ (i := 4) (N := some 32) #[true, true, true, true, true, false, false, false, true, false, false] rfl rfl (one_of HT_.out (by kernel_rfl)) (by decide) (fun K hK => ?_)
      refine goes_ Try.func8 (by kernel_rfl) rfl #[.agg #[.slice Ax5 l0.length cx5, .bool o0], .agg #[.slice Ay6 l1.length cy6, .bool o1]] (by rfl) rfl rfl (by (try simp only [List.map_toArray, List.map_cons, List.map_nil]); first | done | rfl | (simp only [List.length_drop, List.length_take]; rfl)) ?_
      refine (specJ k hS hM (List.mem_cons_of_mem _ (List.mem_cons_self ..)) (List.mem_cons_self ..)).mono ?_
      clear hM hHeld
      rintro e w21 ⟨Az7, cz7, az7, bz7, rfl, hM⟩
      refine ⟨_, rfl, ?_⟩
      refine hK.out _ _ ⟨hM.cell (t := 24) (xs := #[.slice A0 l0.length c0, .bool o0]) (List.mem_cons_of_mem _ (List.mem_cons_of_mem _ (List.mem_cons_self ..))) 0, hM.cell (t := 24) (xs := #[.slice A0 l0.length c0, .bool o0]) (List.mem_cons_of_mem _ (List.mem_cons_of_mem _ (List.mem_cons_self ..))) 1, hM.cell (t := 24) (xs := #[.slice A1 l1.length c1, .bool o1]) (List.mem_cons_of_mem _ (List.mem_cons_self ..)) 0, hM.cell (t := 24) (xs := #[.slice A1 l1.length c1, .bool o1]) (List.mem_cons_of_mem _ (List.mem_cons_self ..)) 1⟩ (fun hHeld => ?_)
      clear hK K
      refine norm_ (a' := ?_) ?_ ?_
      rotate_left
      · show Act.put _ (some 32) _ = _
        simp only [Act.put, List.setIfInBounds_toArray, List.set_cons_zero, List.set_cons_succ, i64_w, i32_w]
        rfl
      refine pure_ (i := 5) (N := some 27) (v := ?_) (a' := ?_) #[true, true, true, true, true, true, false, false, true, false, false] rfl rfl (any_of HT_.out (by kernel_rfl)) (fun _ _ _ h => h) (Or.inl ⟨by rfl, ?_⟩) ?_ ?_
      rotate_left
      · intro w'
        go_simp
        with_reducible rfl
      rotate_left
      · simp only [Act.put, List.setIfInBounds_toArray, List.set_cons_zero, List.set_cons_succ, i64_w, i32_w]
        rfl
      refine pure_ (i := 6) (N := some 33) (v := ?_) (a' := ?_) #[true, true, true, true, true, true, true, false, true, false, false] rfl rfl (any_of HT_.out (by kernel_rfl)) (fun _ _ _ h => h) (Or.inl ⟨by rfl, ?_⟩) ?_ ?_
      rotate_left
      · intro w'
        go_simp
        with_reducible rfl
      rotate_left
      · simp only [Act.put, List.setIfInBounds_toArray, List.set_cons_zero, List.set_cons_succ, i64_w, i32_w]
        rfl
      refine pure_ (i := 7) (N := some 34) (v := ?_) (a' := ?_) #[true, true, true, true, true, true, true, true, true, false, false] rfl rfl (any_of HT_.out (by kernel_rfl)) (fun _ _ _ h => h) (Or.inl ⟨by rfl, ?_⟩) ?_ ?_
      rotate_left
      · intro w'
        go_simp
        with_reducible rfl
      rotate_left
      · simp only [Act.put, List.setIfInBounds_toArray, List.set_cons_zero, List.set_cons_succ, i64_w, i32_w]
        rfl
      exact norm_ (by simp only [putAll, Act.put, List.setIfInBounds_toArray, List.set_cons_zero, List.set_cons_succ]) (hCont (⟨Ax5, cx5, ax5, bx5⟩, ⟨Ay6, cy6, ay6, by6⟩, ⟨Az7, cz7, az7, bz7⟩, g6) _ ⟨hHeld, hM⟩)
  clear hM hHeld
  rintro ⟨⟨Ax5, cx5, ax5, bx5⟩, ⟨Ay6, cy6, ay6, by6⟩, ⟨Az7, cz7, az7, bz7⟩, g6⟩ w22 ⟨hHeld, hM⟩
  dsimp only at hM hHeld ⊢
  refine norm_ (a' := ?_) ?_ ?_
  rotate_left
  · simp only [putAll, Act.put, List.setIfInBounds_toArray, List.set_cons_zero, List.set_cons_succ]
    rfl
  refine one_ (i := 9) (N := none) #[true, true, true, true, true, true, true, true, true, true, false] rfl rfl (one_of HT_.out (by kernel_rfl)) (by decide) (fun K hK => ?_)
  have hz_g6_0 : w22.cell? ⟨g6, 0, none⟩ = some (.slice none 0 0) := hM.cell (t := 26) (xs := #[.slice none 0 0, .bool false]) (List.mem_cons_self ..) 0
  have hf_g6_0 : w22.frozen? ⟨g6, 0, none⟩ = false := hM.frozen (t := 26) (xs := #[.slice none 0 0, .bool false]) (List.mem_cons_self ..) 0
  have hz_g6_1 : w22.cell? ⟨g6, 1, none⟩ = some (.bool false) := hM.cell (t := 26) (xs := #[.slice none 0 0, .bool false]) (List.mem_cons_self ..) 1
  have hf_g6_1 : w22.frozen? ⟨g6, 1, none⟩ = false := hM.frozen (t := 26) (xs := #[.slice none 0 0, .bool false]) (List.mem_cons_self ..) 1
  refine skip_ (w1 := ?_) (by rfl) rfl ?_ ?_
  rotate_left
  · go_simp
    rfl
  clear hHeld hz_g6_0 hf_g6_0 hz_g6_1 hf_g6_1
  replace hM := hM.set2 (.slice Az7 R.length cz7) (.bool ro)
  refine hK.out _ _ ⟨hM.cell (t := 24) (xs := #[.slice A0 l0.length c0, .bool o0]) (List.mem_cons_of_mem _ (List.mem_cons_of_mem _ (List.mem_cons_self ..))) 0, hM.cell (t := 24) (xs := #[.slice A0 l0.length c0, .bool o0]) (List.mem_cons_of_mem _ (List.mem_cons_of_mem _ (List.mem_cons_self ..))) 1, hM.cell (t := 24) (xs := #[.slice A1 l1.length c1, .bool o1]) (List.mem_cons_of_mem _ (List.mem_cons_self ..)) 0, hM.cell (t := 24) (xs := #[.slice A1 l1.length c1, .bool o1]) (List.mem_cons_of_mem _ (List.mem_cons_self ..)) 1⟩ (fun hHeld => ?_)
  clear hK K
  generalize ((w22.setCell ⟨g6, 0, none⟩ (.slice Az7 R.length cz7)).setCell ⟨g6, 1, none⟩ (.bool ro)) = w23 at hM hHeld ⊢
  refine pure_ (i := 10) (N := some 7) (v := ?_) (a' := ?_) #[true, true, true, true, true, true, true, true, true, true, true] rfl rfl (any_of HT_.out (by kernel_rfl)) (fun _ _ _ h => h) (Or.inl ⟨by rfl, ?_⟩) ?_ ?_
  rotate_left
  · intro w'
    go_simp
    with_reducible rfl
  rotate_left
  · simp only [Act.put, List.setIfInBounds_toArray, List.set_cons_zero, List.set_cons_succ, i64_w, i32_w]
    rfl
  refine done_ (done_of HT_.out (by kernel_rfl)) ?_
  clear hHeld
  replace hM := hM.to2
  replace hM := hM.drop
  replace hM := hM.to1
  replace hM := hM.drop
  have hz_g2_0 : w23.cell? ⟨g2, 0, none⟩ = some (.slice A0 l0.length c0) := hM.cell (t := 24) (xs := #[.slice A0 l0.length c0, .bool o0]) (List.mem_cons_of_mem _ (List.mem_cons_of_mem _ (List.mem_cons_self ..))) 0
  have hz_g2_1 : w23.cell? ⟨g2, 1, none⟩ = some (.bool o0) := hM.cell (t := 24) (xs := #[.slice A0 l0.length c0, .bool o0]) (List.mem_cons_of_mem _ (List.mem_cons_of_mem _ (List.mem_cons_self ..))) 1
  go_upto_region 10 with (first
    | (go_at_call 9; refine (toG k HC0.out hc0 t0 hM).mono ?_; clear hM hz_g2_0 hz_g2_1; rintro e w25 ⟨Ap24, cp24, ap24, bp24, rfl, hM⟩)
    | ((with_reducible refine gate_dst (N := 8) rfl ?_); refine box_event ?hg (N := 8) ?hd (cs := #[.slice none 0 0, .bool false]) (t := 26) ?hr ?_; (case hd => rfl); (case hg => rfl); (case hr => first | (go_simp; done) | (go_simp; rfl)); intro g8 hg w26 hbox hb; replace hM := hM.box hg hbox hb; clear hg hbox hb; have hz_g8_0 : w26.cell? ⟨g8, 0, none⟩ = some (.slice none 0 0) := hM.cell (t := 26) (xs := #[.slice none 0 0, .bool false]) (List.mem_cons_self ..) 0; have hf_g8_0 : w26.frozen? ⟨g8, 0, none⟩ = false := hM.frozen (t := 26) (xs := #[.slice none 0 0, .bool false]) (List.mem_cons_self ..) 0; have hz_g8_1 : w26.cell? ⟨g8, 1, none⟩ = some (.bool false) := hM.cell (t := 26) (xs := #[.slice none 0 0, .bool false]) (List.mem_cons_self ..) 1; have hf_g8_1 : w26.frozen? ⟨g8, 1, none⟩ = false := hM.frozen (t := 26) (xs := #[.slice none 0 0, .bool false]) (List.mem_cons_self ..) 1))
  clear hz_g8_0 hf_g8_0 hz_g8_1 hf_g8_1
  replace hM := hM.set2 (.slice Ap24 l0.length cp24) (.bool o0)
  generalize ((w26.setCell ⟨g8, 0, none⟩ (.slice Ap24 l0.length cp24)).setCell ⟨g8, 1, none⟩ (.bool o0)) = w27 at hM ⊢
  have hz_g3_0 : w27.cell? ⟨g3, 0, none⟩ = some (.slice A1 l1.length c1) := hM.cell (t := 24) (xs := #[.slice A1 l1.length c1, .bool o1]) (List.mem_cons_of_mem _ (List.mem_cons_of_mem _ (List.mem_cons_self ..))) 0
  have hz_g3_1 : w27.cell? ⟨g3, 1, none⟩ = some (.bool o1) := hM.cell (t := 24) (xs := #[.slice A1 l1.length c1, .bool o1]) (List.mem_cons_of_mem _ (List.mem_cons_of_mem _ (List.mem_cons_self ..))) 1
  go_upto_region 11 with (first
    | (go_at_call 9; refine (toG k HC1.out hc1 t1' hM).mono ?_; clear hM hz_g3_0 hz_g3_1; rintro e w29 ⟨Ap28, cp28, ap28, bp28, rfl, hM⟩)
    | ((with_reducible refine gate_dst (N := 9) rfl ?_); refine box_event ?hg (N := 9) ?hd (cs := #[.slice none 0 0, .bool false]) (t := 26) ?hr ?_; (case hd => rfl); (case hg => rfl); (case hr => first | (go_simp; done) | (go_simp; rfl)); intro g9 hg w30 hbox hb; replace hM := hM.box hg hbox hb; clear hg hbox hb; have hz_g9_0 : w30.cell? ⟨g9, 0, none⟩ = some (.slice none 0 0) := hM.cell (t := 26) (xs := #[.slice none 0 0, .bool false]) (List.mem_cons_self ..) 0; have hf_g9_0 : w30.frozen? ⟨g9, 0, none⟩ = false := hM.frozen (t := 26) (xs := #[.slice none 0 0, .bool false]) (List.mem_cons_self ..) 0; have hz_g9_1 : w30.cell? ⟨g9, 1, none⟩ = some (.bool false) := hM.cell (t := 26) (xs := #[.slice none 0 0, .bool false]) (List.mem_cons_self ..) 1; have hf_g9_1 : w30.frozen? ⟨g9, 1, none⟩ = false := hM.frozen (t := 26) (xs := #[.slice none 0 0, .bool false]) (List.mem_cons_self ..) 1))
  clear hz_g9_0 hf_g9_0 hz_g9_1 hf_g9_1
  replace hM := hM.set2 (.slice Ap28 l1.length cp28) (.bool o1)
  generalize ((w30.setCell ⟨g9, 0, none⟩ (.slice Ap28 l1.length cp28)).setCell ⟨g9, 1, none⟩ (.bool o1)) = w31 at hM ⊢
  have hz_g8_0 : w31.cell? ⟨g8, 0, none⟩ = some (.slice Ap24 l0.length cp24) := hM.cell (t := 26) (xs := #[.slice Ap24 l0.length cp24, .bool o0]) (List.mem_cons_of_mem _ (List.mem_cons_self ..)) 0
  have hz_g8_1 : w31.cell? ⟨g8, 1, none⟩ = some (.bool o0) := hM.cell (t := 26) (xs := #[.slice Ap24 l0.length cp24, .bool o0]) (List.mem_cons_of_mem _ (List.mem_cons_self ..)) 1
  have hz_g9_0 : w31.cell? ⟨g9, 0, none⟩ = some (.slice Ap28 l1.length cp28) := hM.cell (t := 26) (xs := #[.slice Ap28 l1.length cp28, .bool o1]) (List.mem_cons_self ..) 0
  have hz_g9_1 : w31.cell? ⟨g9, 1, none⟩ = some (.bool o1) := hM.cell (t := 26) (xs := #[.slice Ap28 l1.length cp28, .bool o1]) (List.mem_cons_self ..) 1
  go_upto_region 12 with (first
    | (go_at_call 10; refine (implJ k hI hM (List.mem_cons_of_mem _ (List.mem_cons_self ..)) (List.mem_cons_self ..)).mono ?_; clear hM hz_g8_0 hz_g8_1 hz_g9_0 hz_g9_1; rintro e w33 ⟨Ag32, cg32, ag32, bg32, rfl, hM⟩)
    | ((with_reducible refine gate_dst (N := 10) rfl ?_); refine box_event ?hg (N := 10) ?hd (cs := #[.slice none 0 0, .bool false]) (t := 26) ?hr ?_; (case hd => rfl); (case hg => rfl); (case hr => first | (go_simp; done) | (go_simp; rfl)); intro g10 hg w34 hbox hb; replace hM := hM.box hg hbox hb; clear hg hbox hb; have hz_g10_0 : w34.cell? ⟨g10, 0, none⟩ = some (.slice none 0 0) := hM.cell (t := 26) (xs := #[.slice none 0 0, .bool false]) (List.mem_cons_self ..) 0; have hf_g10_0 : w34.frozen? ⟨g10, 0, none⟩ = false := hM.frozen (t := 26) (xs := #[.slice none 0 0, .bool false]) (List.mem_cons_self ..) 0; have hz_g10_1 : w34.cell? ⟨g10, 1, none⟩ = some (.bool false) := hM.cell (t := 26) (xs := #[.slice none 0 0, .bool false]) (List.mem_cons_self ..) 1; have hf_g10_1 : w34.frozen? ⟨g10, 1, none⟩ = false := hM.frozen (t := 26) (xs := #[.slice none 0 0, .bool false]) (List.mem_cons_self ..) 1))
  clear hz_g10_0 hf_g10_0 hz_g10_1 hf_g10_1
  replace hM := hM.set2 (.slice Ag32 R.length cg32) (.bool ro)
  generalize ((w34.setCell ⟨g10, 0, none⟩ (.slice Ag32 R.length cg32)).setCell ⟨g10, 1, none⟩ (.bool ro)) = w35 at hM ⊢
  have hz_g10_0 : w35.cell? ⟨g10, 0, none⟩ = some (.slice Ag32 R.length cg32) := hM.cell (t := 26) (xs := #[.slice Ag32 R.length cg32, .bool ro]) (List.mem_cons_self ..) 0
  have hz_g10_1 : w35.cell? ⟨g10, 1, none⟩ = some (.bool ro) := hM.cell (t := 26) (xs := #[.slice Ag32 R.length cg32, .bool ro]) (List.mem_cons_self ..) 1
  have hz_g6_0 : w35.cell? ⟨g6, 0, none⟩ = some (.slice Az7 R.length cz7) := hM.cell (t := 26) (xs := #[.slice Az7 R.length cz7, .bool ro]) (List.mem_cons_of_mem _ (List.mem_cons_of_mem _ (List.mem_cons_of_mem _ (List.mem_cons_self ..)))) 0
  have hz_g6_1 : w35.cell? ⟨g6, 1, none⟩ = some (.bool ro) := hM.cell (t := 26) (xs := #[.slice Az7 R.length cz7, .bool ro]) (List.mem_cons_of_mem _ (List.mem_cons_of_mem _ (List.mem_cons_of_mem _ (List.mem_cons_self ..)))) 1
  go_upto_region 14 with (first
    | (go_at_call 11; refine (eqG k qR hM (List.mem_cons_self ..) (List.mem_cons_of_mem _ (List.mem_cons_of_mem _ (List.mem_cons_of_mem _ (List.mem_cons_self ..))))).mono ?_; clear hM hz_g10_0 hz_g10_1 hz_g6_0 hz_g6_1; rintro e w36 ⟨rfl, hM⟩))
  replace hM := hM.drew
  refine start_ (n := 5) (S := fun w' => w'.cell? ⟨g8, 0, none⟩ = some (.slice Ap24 l0.length cp24) ∧ w'.cell? ⟨g8, 1, none⟩ = some (.bool o0) ∧ w'.cell? ⟨g2, 0, none⟩ = some (.slice A0 l0.length c0) ∧ w'.cell? ⟨g2, 1, none⟩ = some (.bool o0)) (ds := []) #[false, false, false, false, false] (by kernel_rfl) rfl rfl ⟨hM.cell (t := 26) (xs := #[.slice Ap24 l0.length cp24, .bool o0]) (List.mem_cons_of_mem _ (List.mem_cons_of_mem _ (List.mem_cons_self ..))) 0, hM.cell (t := 26) (xs := #[.slice Ap24 l0.length cp24, .bool o0]) (List.mem_cons_of_mem _ (List.mem_cons_of_mem _ (List.mem_cons_self ..))) 1, hM.cell (t := 24) (xs := #[.slice A0 l0.length c0, .bool o0]) (List.mem_cons_of_mem _ (List.mem_cons_of_mem _ (List.mem_cons_of_mem _ (List.mem_cons_of_mem _ (List.mem_cons_of_mem _ (List.mem_cons_self ..)))))) 0, hM.cell (t := 24) (xs := #[.slice A0 l0.length c0, .bool o0]) (List.mem_cons_of_mem _ (List.mem_cons_of_mem _ (List.mem_cons_of_mem _ (List.mem_cons_of_mem _ (List.mem_cons_of_mem _ (List.mem_cons_self ..)))))) 1⟩ (fun hHeld => ?_)
  generalize w36.drew = w38 at hM hHeld ⊢
  refine take_ (i := 0) (N := some 54) (v := ?_) (a' := ?_) #[true, false, false, false, false] rfl rfl (by kernel_rfl) (fun _ _ _ h => h) (Or.inl ⟨by rfl, ?_⟩) hHeld ?_ ?_
  rotate_left
  · rintro w' ⟨s0, s1, s2, s3⟩
    go_simp
    with_reducible rfl
  rotate_left
  · simp only [Act.put, List.setIfInBounds_toArray, List.set_cons_zero, List.set_cons_succ, i64_w, i32_w]
    rfl
  refine take_ (i := 1) (N := some 55) (v := ?_) (a' := ?_) #[true, true, false, false, false] rfl rfl (by kernel_rfl) (fun _ _ _ h => h) (Or.inl ⟨by rfl, ?_⟩) hHeld ?_ ?_
  rotate_left
  · rintro w' ⟨s0, s1, s2, s3⟩
    go_simp
    with_reducible rfl
  rotate_left
  · simp only [Act.put, List.setIfInBounds_toArray, List.set_cons_zero, List.set_cons_succ, i64_w, i32_w]
    rfl
  refine one_ (i := 2) (N := some 56) #[true, true, true, false, false] rfl rfl (by kernel_rfl) (by decide) (fun K hK => ?_)
  refine goes_ Try.func9 (by kernel_rfl) rfl #[.agg #[.slice A0 l0.length c0, .bool o0]] (by rfl) rfl rfl (by (try simp only [List.map_toArray, List.map_cons, List.map_nil]); first | done | rfl | (simp only [List.length_drop, List.length_take]; rfl)) ?_
  refine (toG k HC0.out hc0 t0 hM).mono ?_
  clear hM hHeld
  rintro e w39 ⟨Ae37, ce37, ae37, be37, rfl, hM⟩
  refine ⟨_, rfl, ?_⟩
  refine hK.out _ _ ⟨hM.cell (t := 26) (xs := #[.slice Ap24 l0.length cp24, .bool o0]) (List.mem_cons_of_mem _ (List.mem_cons_of_mem _ (List.mem_cons_self ..))) 0, hM.cell (t := 26) (xs := #[.slice Ap24 l0.length cp24, .bool o0]) (List.mem_cons_of_mem _ (List.mem_cons_of_mem _ (List.mem_cons_self ..))) 1, hM.cell (t := 24) (xs := #[.slice A0 l0.length c0, .bool o0]) (List.mem_cons_of_mem _ (List.mem_cons_of_mem _ (List.mem_cons_of_mem _ (List.mem_cons_of_mem _ (List.mem_cons_of_mem _ (List.mem_cons_self ..)))))) 0, hM.cell (t := 24) (xs := #[.slice A0 l0.length c0, .bool o0]) (List.mem_cons_of_mem _ (List.mem_cons_of_mem _ (List.mem_cons_of_mem _ (List.mem_cons_of_mem _ (List.mem_cons_of_mem _ (List.mem_cons_self ..)))))) 1⟩ (fun hHeld => ?_)
  clear hK K
  refine norm_ (a' := ?_) ?_ ?_
  rotate_left
  · show Act.put _ (some 56) _ = _
    simp only [Act.put, List.setIfInBounds_toArray, List.set_cons_zero, List.set_cons_succ, i64_w, i32_w]
    rfl
  refine one_ (i := 3) (N := some 57) #[true, true, true, true, false] rfl rfl (by kernel_rfl) (by decide) (fun K hK => ?_)
  refine goes_ Try.func11 (by kernel_rfl) rfl #[.agg #[.slice Ap24 l0.length cp24, .bool o0], .agg #[.slice Ae37 l0.length ce37, .bool o0]] (by rfl) rfl rfl (by (try simp only [List.map_toArray, List.map_cons, List.map_nil]); first | done | rfl | (simp only [List.length_drop, List.length_take]; rfl)) ?_
  refine (eqG k q0 hM (List.mem_cons_of_mem _ (List.mem_cons_of_mem _ (List.mem_cons_of_mem _ (List.mem_cons_self ..)))) (List.mem_cons_self ..)).mono ?_
  clear hM hHeld
  rintro e w40 ⟨rfl, hM⟩
  refine ⟨_, rfl, ?_⟩
  refine hK.out _ _ ⟨hM.cell (t := 26) (xs := #[.slice Ap24 l0.length cp24, .bool o0]) (List.mem_cons_of_mem _ (List.mem_cons_of_mem _ (List.mem_cons_self ..))) 0, hM.cell (t := 26) (xs := #[.slice Ap24 l0.length cp24, .bool o0]) (List.mem_cons_of_mem _ (List.mem_cons_of_mem _ (List.mem_cons_self ..))) 1, hM.cell (t := 24) (xs := #[.slice A0 l0.length c0, .bool o0]) (List.mem_cons_of_mem _ (List.mem_cons_of_mem _ (List.mem_cons_of_mem _ (List.mem_cons_of_mem _ (List.mem_cons_of_mem _ (List.mem_cons_self ..)))))) 0, hM.cell (t := 24) (xs := #[.slice A0 l0.length c0, .bool o0]) (List.mem_cons_of_mem _ (List.mem_cons_of_mem _ (List.mem_cons_of_mem _ (List.mem_cons_of_mem _ (List.mem_cons_of_mem _ (List.mem_cons_self ..)))))) 1⟩ (fun hHeld => ?_)
  clear hK K
  refine norm_ (a' := ?_) ?_ ?_
  rotate_left
  · show Act.put _ (some 57) _ = _
    simp only [Act.put, List.setIfInBounds_toArray, List.set_cons_zero, List.set_cons_succ, i64_w, i32_w]
    rfl
  refine pure_ (i := 4) (N := some 58) (v := ?_) (a' := ?_) #[true, true, true, true, true] rfl rfl (by kernel_rfl) (fun _ _ _ h => h) (Or.inl ⟨by rfl, ?_⟩) ?_ ?_
  rotate_left
  · intro w'
    go_simp
    with_reducible rfl
  rotate_left
  · simp only [Act.put, List.setIfInBounds_toArray, List.set_cons_zero, List.set_cons_succ, i64_w, i32_w]
    rfl
  refine done_ (by kernel_rfl) ?_
  replace hM := hM.drop
  go_upto_region 16 with fail
  replace hM := hM.drew
  refine start_ (n := 5) (S := fun w' => w'.cell? ⟨g9, 0, none⟩ = some (.slice Ap28 l1.length cp28) ∧ w'.cell? ⟨g9, 1, none⟩ = some (.bool o1) ∧ w'.cell? ⟨g3, 0, none⟩ = some (.slice A1 l1.length c1) ∧ w'.cell? ⟨g3, 1, none⟩ = some (.bool o1)) (ds := []) #[false, false, false, false, false] (by kernel_rfl) rfl rfl ⟨hM.cell (t := 26) (xs := #[.slice Ap28 l1.length cp28, .bool o1]) (List.mem_cons_of_mem _ (List.mem_cons_self ..)) 0, hM.cell (t := 26) (xs := #[.slice Ap28 l1.length cp28, .bool o1]) (List.mem_cons_of_mem _ (List.mem_cons_self ..)) 1, hM.cell (t := 24) (xs := #[.slice A1 l1.length c1, .bool o1]) (List.mem_cons_of_mem _ (List.mem_cons_of_mem _ (List.mem_cons_of_mem _ (List.mem_cons_of_mem _ (List.mem_cons_self ..))))) 0, hM.cell (t := 24) (xs := #[.slice A1 l1.length c1, .bool o1]) (List.mem_cons_of_mem _ (List.mem_cons_of_mem _ (List.mem_cons_of_mem _ (List.mem_cons_of_mem _ (List.mem_cons_self ..))))) 1⟩ (fun hHeld => ?_)
  generalize w40.drew = w42 at hM hHeld ⊢
  refine take_ (i := 0) (N := some 59) (v := ?_) (a' := ?_) #[true, false, false, false, false] rfl rfl (by kernel_rfl) (fun _ _ _ h => h) (Or.inl ⟨by rfl, ?_⟩) hHeld ?_ ?_
  rotate_left
  · rintro w' ⟨s0, s1, s2, s3⟩
    go_simp
    with_reducible rfl
  rotate_left
  · simp only [Act.put, List.setIfInBounds_toArray, List.set_cons_zero, List.set_cons_succ, i64_w, i32_w]
    rfl
  refine take_ (i := 1) (N := some 60) (v := ?_) (a' := ?_) #[true, true, false, false, false] rfl rfl (by kernel_rfl) (fun _ _ _ h => h) (Or.inl ⟨by rfl, ?_⟩) hHeld ?_ ?_
  rotate_left
  · rintro w' ⟨s0, s1, s2, s3⟩
    go_simp
    with_reducible rfl
  rotate_left
  · simp only [Act.put, List.setIfInBounds_toArray, List.set_cons_zero, List.set_cons_succ, i64_w, i32_w]
    rfl
  refine one_ (i := 2) (N := some 61) #[true, true, true, false, false] rfl rfl (by kernel_rfl) (by decide) (fun K hK => ?_)
  refine goes_ Try.func9 (by kernel_rfl) rfl #[.agg #[.slice A1 l1.length c1, .bool o1]] (by rfl) rfl rfl (by (try simp only [List.map_toArray, List.map_cons, List.map_nil]); first | done | rfl | (simp only [List.length_drop, List.length_take]; rfl)) ?_
  refine (toG k HC1.out hc1 t1' hM).mono ?_
  clear hM hHeld
  rintro e w43 ⟨Ae41, ce41, ae41, be41, rfl, hM⟩
  refine ⟨_, rfl, ?_⟩
  refine hK.out _ _ ⟨hM.cell (t := 26) (xs := #[.slice Ap28 l1.length cp28, .bool o1]) (List.mem_cons_of_mem _ (List.mem_cons_self ..)) 0, hM.cell (t := 26) (xs := #[.slice Ap28 l1.length cp28, .bool o1]) (List.mem_cons_of_mem _ (List.mem_cons_self ..)) 1, hM.cell (t := 24) (xs := #[.slice A1 l1.length c1, .bool o1]) (List.mem_cons_of_mem _ (List.mem_cons_of_mem _ (List.mem_cons_of_mem _ (List.mem_cons_of_mem _ (List.mem_cons_self ..))))) 0, hM.cell (t := 24) (xs := #[.slice A1 l1.length c1, .bool o1]) (List.mem_cons_of_mem _ (List.mem_cons_of_mem _ (List.mem_cons_of_mem _ (List.mem_cons_of_mem _ (List.mem_cons_self ..))))) 1⟩ (fun hHeld => ?_)
  clear hK K
  refine norm_ (a' := ?_) ?_ ?_
  rotate_left
  · show Act.put _ (some 61) _ = _
    simp only [Act.put, List.setIfInBounds_toArray, List.set_cons_zero, List.set_cons_succ, i64_w, i32_w]
    rfl
  refine one_ (i := 3) (N := some 62) #[true, true, true, true, false] rfl rfl (by kernel_rfl) (by decide) (fun K hK => ?_)
  refine goes_ Try.func11 (by kernel_rfl) rfl #[.agg #[.slice Ap28 l1.length cp28, .bool o1], .agg #[.slice Ae41 l1.length ce41, .bool o1]] (by rfl) rfl rfl (by (try simp only [List.map_toArray, List.map_cons, List.map_nil]); first | done | rfl | (simp only [List.length_drop, List.length_take]; rfl)) ?_
  refine (eqG k q1 hM (List.mem_cons_of_mem _ (List.mem_cons_of_mem _ (List.mem_cons_self ..))) (List.mem_cons_self ..)).mono ?_
  clear hM hHeld
  rintro e w44 ⟨rfl, hM⟩
  refine ⟨_, rfl, ?_⟩
  refine hK.out _ _ ⟨hM.cell (t := 26) (xs := #[.slice Ap28 l1.length cp28, .bool o1]) (List.mem_cons_of_mem _ (List.mem_cons_self ..)) 0, hM.cell (t := 26) (xs := #[.slice Ap28 l1.length cp28, .bool o1]) (List.mem_cons_of_mem _ (List.mem_cons_self ..)) 1, hM.cell (t := 24) (xs := #[.slice A1 l1.length c1, .bool o1]) (List.mem_cons_of_mem _ (List.mem_cons_of_mem _ (List.mem_cons_of_mem _ (List.mem_cons_of_mem _ (List.mem_cons_self ..))))) 0, hM.cell (t := 24) (xs := #[.slice A1 l1.length c1, .bool o1]) (List.mem_cons_of_mem _ (List.mem_cons_of_mem _ (List.mem_cons_of_mem _ (List.mem_cons_of_mem _ (List.mem_cons_self ..))))) 1⟩ (fun hHeld => ?_)
  clear hK K
  refine norm_ (a' := ?_) ?_ ?_
  rotate_left
  · show Act.put _ (some 62) _ = _
    simp only [Act.put, List.setIfInBounds_toArray, List.set_cons_zero, List.set_cons_succ, i64_w, i32_w]
    rfl
  refine pure_ (i := 4) (N := some 63) (v := ?_) (a' := ?_) #[true, true, true, true, true] rfl rfl (by kernel_rfl) (fun _ _ _ h => h) (Or.inl ⟨by rfl, ?_⟩) ?_ ?_
  rotate_left
  · intro w'
    go_simp
    with_reducible rfl
  rotate_left
  · simp only [Act.put, List.setIfInBounds_toArray, List.set_cons_zero, List.set_cons_succ, i64_w, i32_w]
    rfl
  refine done_ (by kernel_rfl) ?_
  replace hM := hM.drop
  go_upto_region 19 with fail
  replace hM := hM.to2
  have hz_g8_0 : w44.cell? ⟨g8, 0, none⟩ = some (.slice Ap24 l0.length cp24) := hM.cell (t := 26) (xs := #[.slice Ap24 l0.length cp24, .bool o0]) (List.mem_cons_of_mem _ (List.mem_cons_of_mem _ (List.mem_cons_self ..))) 0
  have hz_g8_1 : w44.cell? ⟨g8, 1, none⟩ = some (.bool o0) := hM.cell (t := 26) (xs := #[.slice Ap24 l0.length cp24, .bool o0]) (List.mem_cons_of_mem _ (List.mem_cons_of_mem _ (List.mem_cons_self ..))) 1
  go_upto_region 20 with (first
    | (go_at_call 12; refine (markG k k0 hM).mono ?_; clear hM hz_g8_0 hz_g8_1; rintro e w45 ⟨rfl, hM⟩))
  replace hM := hM.to2
  have hz_g9_0 : w45.cell? ⟨g9, 0, none⟩ = some (.slice Ap28 l1.length cp28) := hM.cell (t := 26) (xs := #[.slice Ap28 l1.length cp28, .bool o1]) (List.mem_cons_of_mem _ (List.mem_cons_self ..)) 0
  have hz_g9_1 : w45.cell? ⟨g9, 1, none⟩ = some (.bool o1) := hM.cell (t := 26) (xs := #[.slice Ap28 l1.length cp28, .bool o1]) (List.mem_cons_of_mem _ (List.mem_cons_self ..)) 1
  go_upto_region 21 with (first
    | (go_at_call 12; refine (markG k k1 hM).mono ?_; clear hM hz_g9_0 hz_g9_1; rintro e w46 ⟨rfl, hM⟩))
  have hz_g10_0 : w46.cell? ⟨g10, 0, none⟩ = some (.slice Ag32 R.length cg32) := hM.cell (t := 26) (xs := #[.slice Ag32 R.length cg32, .bool ro]) (List.mem_cons_self ..) 0
  have hz_g10_1 : w46.cell? ⟨g10, 1, none⟩ = some (.bool ro) := hM.cell (t := 26) (xs := #[.slice Ag32 R.length cg32, .bool ro]) (List.mem_cons_self ..) 1
  have hz_g6_0 : w46.cell? ⟨g6, 0, none⟩ = some (.slice Az7 R.length cz7) := hM.cell (t := 26) (xs := #[.slice Az7 R.length cz7, .bool ro]) (List.mem_cons_of_mem _ (List.mem_cons_of_mem _ (List.mem_cons_of_mem _ (List.mem_cons_self ..)))) 0
  have hz_g6_1 : w46.cell? ⟨g6, 1, none⟩ = some (.bool ro) := hM.cell (t := 26) (xs := #[.slice Az7 R.length cz7, .bool ro]) (List.mem_cons_of_mem _ (List.mem_cons_of_mem _ (List.mem_cons_of_mem _ (List.mem_cons_self ..)))) 1
  go_upto_region 24 with (first
    | (go_at_call 11; refine (eqG k qR hM (List.mem_cons_of_mem _ (List.mem_cons_of_mem _ (List.mem_cons_self ..))) (List.mem_cons_of_mem _ (List.mem_cons_of_mem _ (List.mem_cons_of_mem _ (List.mem_cons_self ..))))).mono ?_; clear hM hz_g10_0 hz_g10_1 hz_g6_0 hz_g6_1; rintro e w47 ⟨rfl, hM⟩))
  replace hM := hM.to2
  have hz_g10_0 : w47.cell? ⟨g10, 0, none⟩ = some (.slice Ag32 R.length cg32) := hM.cell (t := 26) (xs := #[.slice Ag32 R.length cg32, .bool ro]) (List.mem_cons_self ..) 0
  have hz_g10_1 : w47.cell? ⟨g10, 1, none⟩ = some (.bool ro) := hM.cell (t := 26) (xs := #[.slice Ag32 R.length cg32, .bool ro]) (List.mem_cons_self ..) 1
  go_upto_region 26 with (first
    | (go_at_call 12; refine (markG k kR hM).mono ?_; clear hM hz_g10_0 hz_g10_1; rintro e w48 ⟨rfl, hM⟩))
  have hz_g10_0 : w48.cell? ⟨g10, 0, none⟩ = some (.slice Ag32 R.length cg32) := hM.cell (t := 26) (xs := #[.slice Ag32 R.length cg32, .bool ro]) (List.mem_cons_self ..) 0
  have hz_g10_1 : w48.cell? ⟨g10, 1, none⟩ = some (.bool ro) := hM.cell (t := 26) (xs := #[.slice Ag32 R.length cg32, .bool ro]) (List.mem_cons_self ..) 1
  go_upto_region 31 with (first
    | (go_at_call 13; refine (heldG k hh hM (List.mem_cons_self ..)).mono ?_; clear hM hz_g10_0 hz_g10_1; rintro e w49 ⟨rfl, hM⟩))
  replace hM := hM.drew
  refine start_ (n := 11) (S := fun w' => w'.cell? ⟨g2, 0, none⟩ = some (.slice A0 l0.length c0) ∧ w'.cell? ⟨g2, 1, none⟩ = some (.bool o0) ∧ w'.cell? ⟨g3, 0, none⟩ = some (.slice A1 l1.length c1) ∧ w'.cell? ⟨g3, 1, none⟩ = some (.bool o1)) (ds := []) #[false, false, false, false, false, false, false, false, false, false, false] (by kernel_rfl) rfl rfl ⟨hM.cell (t := 24) (xs := #[.slice A0 l0.length c0, .bool o0]) (List.mem_cons_of_mem _ (List.mem_cons_of_mem _ (List.mem_cons_of_mem _ (List.mem_cons_of_mem _ (List.mem_cons_of_mem _ (List.mem_cons_self ..)))))) 0, hM.cell (t := 24) (xs := #[.slice A0 l0.length c0, .bool o0]) (List.mem_cons_of_mem _ (List.mem_cons_of_mem _ (List.mem_cons_of_mem _ (List.mem_cons_of_mem _ (List.mem_cons_of_mem _ (List.mem_cons_self ..)))))) 1, hM.cell (t := 24) (xs := #[.slice A1 l1.length c1, .bool o1]) (List.mem_cons_of_mem _ (List.mem_cons_of_mem _ (List.mem_cons_of_mem _ (List.mem_cons_of_mem _ (List.mem_cons_self ..))))) 0, hM.cell (t := 24) (xs := #[.slice A1 l1.length c1, .bool o1]) (List.mem_cons_of_mem _ (List.mem_cons_of_mem _ (List.mem_cons_of_mem _ (List.mem_cons_of_mem _ (List.mem_cons_self ..))))) 1⟩ (fun hHeld => ?_); refine with_tabW tab31 bits31 (fun HT_ HW_ => ?_)
  generalize w49.drew = w53 at hM hHeld ⊢
  refine take_ (i := 0) (N := some 95) (v := ?_) (a' := ?_) #[true, false, false, false, false, false, false, false, false, false, false] rfl rfl (take_ofW HT_.out HW_.out (by kernel_rfl)) (fun _ _ _ h => h) (Or.inl ⟨by rfl, ?_⟩) hHeld ?_ ?_
  rotate_left
  · rintro w' ⟨s0, s1, s2, s3⟩
    go_simp
    with_reducible rfl
  rotate_left
  · simp only [Act.put, List.setIfInBounds_toArray, List.set_cons_zero, List.set_cons_succ, i64_w, i32_w]
    rfl
  refine take_ (i := 2) (N := some 97) (v := ?_) (a' := ?_) #[true, false, true, false, false, false, false, false, false, false, false] rfl rfl (take_ofW HT_.out HW_.out (by kernel_rfl)) (fun _ _ _ h => h) (Or.inl ⟨by rfl, ?_⟩) hHeld ?_ ?_
  rotate_left
  · rintro w' ⟨s0, s1, s2, s3⟩
    go_simp
    with_reducible rfl
  rotate_left
  · simp only [Act.put, List.setIfInBounds_toArray, List.set_cons_zero, List.set_cons_succ, i64_w, i32_w]
    rfl
  refine join_ (σ := Rn × Rn × Rn × Nat) 2 #[true, true, true, true, true, true, true, true, true, false, false] (fun s_ => [(96, .agg #[.slice s_.1.A l0.length s_.1.c, .bool o0]), (98, .agg #[.slice s_.2.1.A l1.length s_.2.1.c, .bool o1]), (99, .tuple #[.agg #[.slice s_.2.2.1.A R.length s_.2.2.1.c, .bool ro], .bool rb]), (94, .tuple #[.agg #[.slice s_.2.2.1.A R.length s_.2.2.1.c, .bool ro], .bool rb]), (100, .agg #[.slice s_.2.2.1.A R.length s_.2.2.1.c, .bool ro]), (101, .bool rb), (15, .pointer (some ⟨s_.2.2.2, 0, none⟩))]) (fun s_ w' => (w'.cell? ⟨g2, 0, none⟩ = some (.slice A0 l0.length c0) ∧ w'.cell? ⟨g2, 1, none⟩ = some (.bool o0) ∧ w'.cell? ⟨g3, 0, none⟩ = some (.slice A1 l1.length c1) ∧ w'.cell? ⟨g3, 1, none⟩ = some (.bool o1)) ∧ M w [⟨s_.2.2.2, #[.slice none 0 0, .bool false], 26⟩, ⟨g10, #[.slice Ag32 R.length cg32, .bool ro], 26⟩, ⟨g9, #[.slice Ap28 l1.length cp28, .bool o1], 26⟩, ⟨g8, #[.slice Ap24 l0.length cp24, .bool o0], 26⟩, ⟨g6, #[.slice Az7 R.length cz7, .bool ro], 26⟩, ⟨g3, #[.slice A1 l1.length c1, .bool o1], 24⟩, ⟨g2, #[.slice A0 l0.length c0, .bool o0], 24⟩] [row w.heap.size s_.2.2.1.a s_.2.2.1.b (.slice s_.2.2.1.A R.length s_.2.2.1.c) R, row w.heap.size s_.2.1.a s_.2.1.b (.slice s_.2.1.A l1.length s_.2.1.c) l1, row w.heap.size s_.1.a s_.1.b (.slice s_.1.A l0.length s_.1.c) l0, row w.heap.size ag32 bg32 (.slice Ag32 R.length cg32) R', row w.heap.size ap28 bp28 (.slice Ap28 l1.length cp28) L1, row w.heap.size ap24 bp24 (.slice Ap24 l0.length cp24) L0, row w.heap.size az7 bz7 (.slice Az7 R.length cz7) R] w') ?_ ?_
  rotate_left
  · intro hCont
    refine two_ (i := 1) (j := 8) (Ni := some 96) (Nj := some 15) #[true, true, true, false, false, false, false, false, false, false, false] #[true, false, true, false, false, false, false, false, true, false, false] rfl rfl rfl rfl (two_of HT_.out (by kernel_rfl)) (by decide) (by decide) (fun K hK => ?_) (fun K hK => ?_)
    · skip
      refine goes_ Try.func9 (by kernel_rfl) rfl #[.agg #[.slice A0 l0.length c0, .bool o0]] (by rfl) rfl rfl (by (try simp only [List.map_toArray, List.map_cons, List.map_nil]); first | done | rfl | (simp only [List.length_drop, List.length_take]; rfl)) ?_
      refine (toG k HC0.out hc0 t0 hM).mono ?_
      clear hM hHeld
      rintro e w54 ⟨Ax50, cx50, ax50, bx50, rfl, hM⟩
      refine ⟨_, rfl, ?_⟩
      refine hK.out _ _ ⟨hM.cell (t := 24) (xs := #[.slice A0 l0.length c0, .bool o0]) (List.mem_cons_of_mem _ (List.mem_cons_of_mem _ (List.mem_cons_of_mem _ (List.mem_cons_of_mem _ (List.mem_cons_of_mem _ (List.mem_cons_self ..)))))) 0, hM.cell (t := 24) (xs := #[.slice A0 l0.length c0, .bool o0]) (List.mem_cons_of_mem _ (List.mem_cons_of_mem _ (List.mem_cons_of_mem _ (List.mem_cons_of_mem _ (List.mem_cons_of_mem _ (List.mem_cons_self ..)))))) 1, hM.cell (t := 24) (xs := #[.slice A1 l1.length c1, .bool o1]) (List.mem_cons_of_mem _ (List.mem_cons_of_mem _ (List.mem_cons_of_mem _ (List.mem_cons_of_mem _ (List.mem_cons_self ..))))) 0, hM.cell (t := 24) (xs := #[.slice A1 l1.length c1, .bool o1]) (List.mem_cons_of_mem _ (List.mem_cons_of_mem _ (List.mem_cons_of_mem _ (List.mem_cons_of_mem _ (List.mem_cons_self ..))))) 1⟩ (fun hHeld => ?_)
      clear hK K
      refine norm_ (a' := ?_) ?_ ?_
      rotate_left
      · show Act.put _ (some 96) _ = _
        simp only [Act.put, List.setIfInBounds_toArray, List.set_cons_zero, List.set_cons_succ, i64_w, i32_w]
        rfl
      refine two_ (i := 3) (j := 8) (Ni := some 98) (Nj := some 15) #[true, true, true, true, false, false, false, false, false, false, false] #[true, true, true, false, false, false, false, false, true, false, false] rfl rfl rfl rfl (two_of HT_.out (by kernel_rfl)) (by decide) (by decide) (fun K hK => ?_) (fun K hK => ?_)
      · skip
        refine goes_ Try.func9 (by kernel_rfl) rfl #[.agg #[.slice A1 l1.length c1, .bool o1]] (by rfl) rfl rfl (by (try simp only [List.map_toArray, List.map_cons, List.map_nil]); first | done | rfl | (simp only [List.length_drop, List.length_take]; rfl)) ?_
        refine (toG k HC1.out hc1 t1' hM).mono ?_
        clear hM hHeld
        rintro e w55 ⟨Ay51, cy51, ay51, by51, rfl, hM⟩
        refine ⟨_, rfl, ?_⟩
        refine hK.out _ _ ⟨hM.cell (t := 24) (xs := #[.slice A0 l0.length c0, .bool o0]) (List.mem_cons_of_mem _ (List.mem_cons_of_mem _ (List.mem_cons_of_mem _ (List.mem_cons_of_mem _ (List.mem_cons_of_mem _ (List.mem_cons_self ..)))))) 0, hM.cell (t := 24) (xs := #[.slice A0 l0.length c0, .bool o0]) (List.mem_cons_of_mem _ (List.mem_cons_of_mem _ (List.mem_cons_of_mem _ (List.mem_cons_of_mem _ (List.mem_cons_of_mem _ (List.mem_cons_self ..)))))) 1, hM.cell (t := 24) (xs := #[.slice A1 l1.length c1, .bool o1]) (List.mem_cons_of_mem _ (List.mem_cons_of_mem _ (List.mem_cons_of_mem _ (List.mem_cons_of_mem _ (List.mem_cons_self ..))))) 0, hM.cell (t := 24) (xs := #[.slice A1 l1.length c1, .bool o1]) (List.mem_cons_of_mem _ (List.mem_cons_of_mem _ (List.mem_cons_of_mem _ (List.mem_cons_of_mem _ (List.mem_cons_self ..))))) 1⟩ (fun hHeld => ?_)
        clear hK K
        refine norm_ (a' := ?_) ?_ ?_
        rotate_left
        · show Act.put _ (some 98) _ = _
          simp only [Act.put, List.setIfInBounds_toArray, List.set_cons_zero, List.set_cons_succ, i64_w, i32_w]
          rfl
        refine two_ (i := 4) (j := 8) (Ni := some 99) (Nj := some 15) #[true, true, true, true, true, false, false, false, false, false, false] #[true, true, true, true, false, false, false, false, true, false, false] rfl rfl rfl rfl (two_of HT_.out (by kernel_rfl)) (by decide) (by decide) (fun K hK => ?_) (fun K hK => ?_)
        · skip
          refine goes_ Try.func10 (by kernel_rfl) rfl #[.agg #[.slice Ax50 l0.length cx50, .bool o0], .agg #[.slice Ay51 l1.length cy51, .bool o1]] (by rfl) rfl rfl (by (try simp only [List.map_toArray, List.map_cons, List.map_nil]); first | done | rfl | (simp only [List.length_drop, List.length_take]; rfl)) ?_
          refine (implJ k hI hM (List.mem_cons_of_mem _ (List.mem_cons_self ..)) (List.mem_cons_self ..)).mono ?_
          clear hM hHeld
          rintro e w56 ⟨Az52, cz52, az52, bz52, rfl, hM⟩
          refine ⟨_, rfl, ?_⟩
          refine hK.out _ _ ⟨hM.cell (t := 24) (xs := #[.slice A0 l0.length c0, .bool o0]) (List.mem_cons_of_mem _ (List.mem_cons_of_mem _ (List.mem_cons_of_mem _ (List.mem_cons_of_mem _ (List.mem_cons_of_mem _ (List.mem_cons_self ..)))))) 0, hM.cell (t := 24) (xs := #[.slice A0 l0.length c0, .bool o0]) (List.mem_cons_of_mem _ (List.mem_cons_of_mem _ (List.mem_cons_of_mem _ (List.mem_cons_of_mem _ (List.mem_cons_of_mem _ (List.mem_cons_self ..)))))) 1, hM.cell (t := 24) (xs := #[.slice A1 l1.length c1, .bool o1]) (List.mem_cons_of_mem _ (List.mem_cons_of_mem _ (List.mem_cons_of_mem _ (List.mem_cons_of_mem _ (List.mem_cons_self ..))))) 0, hM.cell (t := 24) (xs := #[.slice A1 l1.length c1, .bool o1]) (List.mem_cons_of_mem _ (List.mem_cons_of_mem _ (List.mem_cons_of_mem _ (List.mem_cons_of_mem _ (List.mem_cons_self ..))))) 1⟩ (fun hHeld => ?_)
          clear hK K
          refine norm_ (a' := ?_) ?_ ?_
          rotate_left
          · show Act.put _ (some 99) _ = _
            simp only [Act.put, List.setIfInBounds_toArray, List.set_cons_zero, List.set_cons_succ, i64_w, i32_w]
            rfl
          refine pure_ (i := 5) (N := some 94) (v := ?_) (a' := ?_) #[true, true, true, true, true, true, false, false, false, false, false] rfl rfl (any_of HT_.out (by kernel_rfl)) (fun _ _ _ h => h) (Or.inl ⟨by rfl, ?_⟩) ?_ ?_
          rotate_left
          · intro w'
            go_simp
            with_reducible rfl
          rotate_left
          · simp only [Act.put, List.setIfInBounds_toArray, List.set_cons_zero, List.set_cons_succ, i64_w, i32_w]
            rfl
          refine pure_ (i := 6) (N := some 100) (v := ?_) (a' := ?_) #[true, true, true, true, true, true, true, false, false, false, false] rfl rfl (any_of HT_.out (by kernel_rfl)) (fun _ _ _ h => h) (Or.inl ⟨by rfl, ?_⟩) ?_ ?_
          rotate_left
          · intro w'
            go_simp
            with_reducible rfl
          rotate_left
          · simp only [Act.put, List.setIfInBounds_toArray, List.set_cons_zero, List.set_cons_succ, i64_w, i32_w]
            rfl
          refine pure_ (i := 7) (N := some 101) (v := ?_) (a' := ?_) #[true, true, true, true, true, true, true, true, false, false, false] rfl rfl (any_of HT_.out (by kernel_rfl)) (fun _ _ _ h => h) (Or.inl ⟨by rfl, ?_⟩) ?_ ?_
          rotate_left
          · intro w'
            go_simp
            with_reducible rfl
          rotate_left
          · simp only [Act.put, List.setIfInBounds_toArray, List.set_cons_zero, List.set_cons_succ, i64_w, i32_w]
            rfl
          refine one_ (i := 8) (N := some 15) #[true, true, true, true, true, true, true, true, true, false, false] rfl rfl (one_of HT_.out (by kernel_rfl)) (by decide) (fun K hK => ?_)
          refine box_step ?hg (N := 15) ?hd (cs := #[.slice none 0 0, .bool false]) (t := 26) ?hr ?_; (case hd => rfl); (case hg => rfl); (case hr => first | (go_simp; done) | (go_simp; rfl))
          intro g15 hg w57 hbox hb
          replace hM := hM.box hg hbox hb
          clear hg hbox hb hHeld
          refine hK.out _ _ ⟨hM.cell (t := 24) (xs := #[.slice A0 l0.length c0, .bool o0]) (List.mem_cons_of_mem _ (List.mem_cons_of_mem _ (List.mem_cons_of_mem _ (List.mem_cons_of_mem _ (List.mem_cons_of_mem _ (List.mem_cons_of_mem _ (List.mem_cons_self ..))))))) 0, hM.cell (t := 24) (xs := #[.slice A0 l0.length c0, .bool o0]) (List.mem_cons_of_mem _ (List.mem_cons_of_mem _ (List.mem_cons_of_mem _ (List.mem_cons_of_mem _ (List.mem_cons_of_mem _ (List.mem_cons_of_mem _ (List.mem_cons_self ..))))))) 1, hM.cell (t := 24) (xs := #[.slice A1 l1.length c1, .bool o1]) (List.mem_cons_of_mem _ (List.mem_cons_of_mem _ (List.mem_cons_of_mem _ (List.mem_cons_of_mem _ (List.mem_cons_of_mem _ (List.mem_cons_self ..)))))) 0, hM.cell (t := 24) (xs := #[.slice A1 l1.length c1, .bool o1]) (List.mem_cons_of_mem _ (List.mem_cons_of_mem _ (List.mem_cons_of_mem _ (List.mem_cons_of_mem _ (List.mem_cons_of_mem _ (List.mem_cons_self ..)))))) 1⟩ (fun hHeld => ?_)
          clear hK K
          refine norm_ (a' := ?_) ?_ ?_
          rotate_left
          · show Act.put _ (some 15) _ = _
            simp only [Act.put, List.setIfInBounds_toArray, List.set_cons_zero, List.set_cons_succ, i64_w, i32_w]
            rfl
          exact norm_ (by simp only [putAll, Act.put, List.setIfInBounds_toArray, List.set_cons_zero, List.set_cons_succ]) (hCont (⟨Ax50, cx50, ax50, bx50⟩, ⟨Ay51, cy51, ay51, by51⟩, ⟨Az52, cz52, az52, bz52⟩, g15) _ ⟨hHeld, hM⟩)
        · skip
          refine box_step ?hg (N := 15) ?hd (cs := #[.slice none 0 0, .bool false]) (t := 26) ?hr ?_; (case hd => rfl); (case hg => rfl); (case hr => first | (go_simp; done) | (go_simp; rfl))
          intro g15 hg w58 hbox hb
          replace hM := hM.box hg hbox hb
          clear hg hbox hb hHeld
          refine hK.out _ _ ⟨hM.cell (t := 24) (xs := #[.slice A0 l0.length c0, .bool o0]) (List.mem_cons_of_mem _ (List.mem_cons_of_mem _ (List.mem_cons_of_mem _ (List.mem_cons_of_mem _ (List.mem_cons_of_mem _ (List.mem_cons_of_mem _ (List.mem_cons_self ..))))))) 0, hM.cell (t := 24) (xs := #[.slice A0 l0.length c0, .bool o0]) (List.mem_cons_of_mem _ (List.mem_cons_of_mem _ (List.mem_cons_of_mem _ (List.mem_cons_of_mem _ (List.mem_cons_of_mem _ (List.mem_cons_of_mem _ (List.mem_cons_self ..))))))) 1, hM.cell (t := 24) (xs := #[.slice A1 l1.length c1, .bool o1]) (List.mem_cons_of_mem _ (List.mem_cons_of_mem _ (List.mem_cons_of_mem _ (List.mem_cons_of_mem _ (List.mem_cons_of_mem _ (List.mem_cons_self ..)))))) 0, hM.cell (t := 24) (xs := #[.slice A1 l1.length c1, .bool o1]) (List.mem_cons_of_mem _ (List.mem_cons_of_mem _ (List.mem_cons_of_mem _ (List.mem_cons_of_mem _ (List.mem_cons_of_mem _ (List.mem_cons_self ..)))))) 1⟩ (fun hHeld => ?_)
          clear hK K
          refine norm_ (a' := ?_) ?_ ?_
          rotate_left
          · show Act.put _ (some 15) _ = _
            simp only [Act.put, List.setIfInBounds_toArray, List.set_cons_zero, List.set_cons_succ, i64_w, i32_w]
            rfl
          refine one_ (i := 4) (N := some 99) #[true, true, true, true, true, false, false, false, true, false, false] rfl rfl (one_of HT_.out (by kernel_rfl)) (by decide) (fun K hK => ?_)
          refine goes_ Try.func10 (by kernel_rfl) rfl #[.agg #[.slice Ax50 l0.length cx50, .bool o0], .agg #[.slice Ay51 l1.length cy51, .bool o1]] (by rfl) rfl rfl (by (try simp only [List.map_toArray, List.map_cons, List.map_nil]); first | done | rfl | (simp only [List.length_drop, List.length_take]; rfl)) ?_
          refine (implJ k hI hM (List.mem_cons_of_mem _ (List.mem_cons_self ..)) (List.mem_cons_self ..)).mono ?_
          clear hM hHeld
          rintro e w59 ⟨Az52, cz52, az52, bz52, rfl, hM⟩
          refine ⟨_, rfl, ?_⟩
          refine hK.out _ _ ⟨hM.cell (t := 24) (xs := #[.slice A0 l0.length c0, .bool o0]) (List.mem_cons_of_mem _ (List.mem_cons_of_mem _ (List.mem_cons_of_mem _ (List.mem_cons_of_mem _ (List.mem_cons_of_mem _ (List.mem_cons_of_mem _ (List.mem_cons_self ..))))))) 0, hM.cell (t := 24) (xs := #[.slice A0 l0.length c0, .bool o0]) (List.mem_cons_of_mem _ (List.mem_cons_of_mem _ (List.mem_cons_of_mem _ (List.mem_cons_of_mem _ (List.mem_cons_of_mem _ (List.mem_cons_of_mem _ (List.mem_cons_self ..))))))) 1, hM.cell (t := 24) (xs := #[.slice A1 l1.length c1, .bool o1]) (List.mem_cons_of_mem _ (List.mem_cons_of_mem _ (List.mem_cons_of_mem _ (List.mem_cons_of_mem _ (List.mem_cons_of_mem _ (List.mem_cons_self ..)))))) 0, hM.cell (t := 24) (xs := #[.slice A1 l1.length c1, .bool o1]) (List.mem_cons_of_mem _ (List.mem_cons_of_mem _ (List.mem_cons_of_mem _ (List.mem_cons_of_mem _ (List.mem_cons_of_mem _ (List.mem_cons_self ..)))))) 1⟩ (fun hHeld => ?_)
          clear hK K
          refine norm_ (a' := ?_) ?_ ?_
          rotate_left
          · show Act.put _ (some 99) _ = _
            simp only [Act.put, List.setIfInBounds_toArray, List.set_cons_zero, List.set_cons_succ, i64_w, i32_w]
            rfl
          refine pure_ (i := 5) (N := some 94) (v := ?_) (a' := ?_) #[true, true, true, true, true, true, false, false, true, false, false] rfl rfl (any_of HT_.out (by kernel_rfl)) (fun _ _ _ h => h) (Or.inl ⟨by rfl, ?_⟩) ?_ ?_
          rotate_left
          · intro w'
            go_simp
            with_reducible rfl
          rotate_left
          · simp only [Act.put, List.setIfInBounds_toArray, List.set_cons_zero, List.set_cons_succ, i64_w, i32_w]
            rfl
          refine pure_ (i := 6) (N := some 100) (v := ?_) (a' := ?_) #[true, true, true, true, true, true, true, false, true, false, false] rfl rfl (any_of HT_.out (by kernel_rfl)) (fun _ _ _ h => h) (Or.inl ⟨by rfl, ?_⟩) ?_ ?_
          rotate_left
          · intro w'
            go_simp
            with_reducible rfl
          rotate_left
          · simp only [Act.put, List.setIfInBounds_toArray, List.set_cons_zero, List.set_cons_succ, i64_w, i32_w]
            rfl
          refine pure_ (i := 7) (N := some 101) (v := ?_) (a' := ?_) #[true, true, true, true, true, true, true, true, true, false, false] rfl rfl (any_of HT_.out (by kernel_rfl)) (fun _ _ _ h => h) (Or.inl ⟨by rfl, ?_⟩) ?_ ?_
          rotate_left
          · intro w'
            go_simp
            with_reducible rfl
          rotate_left
          · simp only [Act.put, List.setIfInBounds_toArray, List.set_cons_zero, List.set_cons_succ, i64_w, i32_w]
            rfl
          exact norm_ (by simp only [putAll, Act.put, List.setIfInBounds_toArray, List.set_cons_zero, List.set_cons_succ]) (hCont (⟨Ax50, cx50, ax50, bx50⟩, ⟨Ay51, cy51, ay51, by51⟩, ⟨Az52, cz52, az52, bz52⟩, g15) _ ⟨hHeld, hM⟩)
      · skip
        refine box_step ?hg (N := 15) ?hd (cs := #[.slice none 0 0, .bool false]) (t := 26) ?hr ?_; (case hd => rfl); (case hg => rfl); (case hr => first | (go_simp; done) | (go_simp; rfl))
        intro g15 hg w60 hbox hb
        replace hM := hM.box hg hbox hb
        clear hg hbox hb hHeld
        refine hK.out _ _ ⟨hM.cell (t := 24) (xs := #[.slice A0 l0.length c0, .bool o0]) (List.mem_cons_of_mem _ (List.mem_cons_of_mem _ (List.mem_cons_of_mem _ (List.mem_cons_of_mem _ (List.mem_cons_of_mem _ (List.mem_cons_of_mem _ (List.mem_cons_self ..))))))) 0, hM.cell (t := 24) (xs := #[.slice A0 l0.length c0, .bool o0]) (List.mem_cons_of_mem _ (List.mem_cons_of_mem _ (List.mem_cons_of_mem _ (List.mem_cons_of_mem _ (List.mem_cons_of_mem _ (List.mem_cons_of_mem _ (List.mem_cons_self ..))))))) 1, hM.cell (t := 24) (xs := #[.slice A1 l1.length c1, .bool o1]) (List.mem_cons_of_mem _ (List.mem_cons_of_mem _ (List.mem_cons_of_mem _ (List.mem_cons_of_mem _ (List.mem_cons_of_mem _ (List.mem_cons_self ..)))))) 0, hM.cell (t := 24) (xs := #[.slice A1 l1.length c1, .bool o1]) (List.mem_cons_of_mem _ (List.mem_cons_of_mem _ (List.mem_cons_of_mem _ (List.mem_cons_of_mem _ (List.mem_cons_of_mem _ (List.mem_cons_self ..)))))) 1⟩ (fun hHeld => ?_)
        clear hK K
        refine norm_ (a' := ?_) ?_ ?_
        rotate_left
        · show Act.put _ (some 15) _ = _
          simp only [Act.put, List.setIfInBounds_toArray, List.set_cons_zero, List.set_cons_succ, i64_w, i32_w]
          rfl
        refine one_ (i := 3) (N := some 98) #[true, true, true, true, false, false, false, false, true, false, false] rfl rfl (one_of HT_.out (by kernel_rfl)) (by decide) (fun K hK => ?_)
        refine goes_ Try.func9 (by kernel_rfl) rfl #[.agg #[.slice A1 l1.length c1, .bool o1]] (by rfl) rfl rfl (by (try simp only [List.map_toArray, List.map_cons, List.map_nil]); first | done | rfl | (simp only [List.length_drop, List.length_take]; rfl)) ?_
        refine (toG k HC1.out hc1 t1' hM).mono ?_
        clear hM hHeld
        rintro e w61 ⟨Ay51, cy51, ay51, by51, rfl, hM⟩
        refine ⟨_, rfl, ?_⟩
        refine hK.out _ _ ⟨hM.cell (t := 24) (xs := #[.slice A0 l0.length c0, .bool o0]) (List.mem_cons_of_mem _ (List.mem_cons_of_mem _ (List.mem_cons_of_mem _ (List.mem_cons_of_mem _ (List.mem_cons_of_mem _ (List.mem_cons_of_mem _ (List.mem_cons_self ..))))))) 0, hM.cell (t := 24) (xs := #[.slice A0 l0.length c0, .bool o0]) (List.mem_cons_of_mem _ (List.mem_cons_of_mem _ (List.mem_cons_of_mem _ (List.mem_cons_of_mem _ (List.mem_cons_of_mem _ (List.mem_cons_of_mem _ (List.mem_cons_self ..))))))) 1, hM.cell (t := 24) (xs := #[.slice A1 l1.length c1, .bool o1]) (List.mem_cons_of_mem _ (List.mem_cons_of_mem _ (List.mem_cons_of_mem _ (List.mem_cons_of_mem _ (List.mem_cons_of_mem _ (List.mem_cons_self ..)))))) 0, hM.cell (t := 24) (xs := #[.slice A1 l1.length c1, .bool o1]) (List.mem_cons_of_mem _ (List.mem_cons_of_mem _ (List.mem_cons_of_mem _ (List.mem_cons_of_mem _ (List.mem_cons_of_mem _ (List.mem_cons_self ..)))))) 1⟩ (fun hHeld => ?_)
        clear hK K
        refine norm_ (a' := ?_) ?_ ?_
        rotate_left
        · show Act.put _ (some 98) _ = _
          simp only [Act.put, List.setIfInBounds_toArray, List.set_cons_zero, List.set_cons_succ, i64_w, i32_w]
          rfl
        refine one_ (i := 4) (N := some 99) #[true, true, true, true, true, false, false, false, true, false, false] rfl rfl (one_of HT_.out (by kernel_rfl)) (by decide) (fun K hK => ?_)
        refine goes_ Try.func10 (by kernel_rfl) rfl #[.agg #[.slice Ax50 l0.length cx50, .bool o0], .agg #[.slice Ay51 l1.length cy51, .bool o1]] (by rfl) rfl rfl (by (try simp only [List.map_toArray, List.map_cons, List.map_nil]); first | done | rfl | (simp only [List.length_drop, List.length_take]; rfl)) ?_
        refine (implJ k hI hM (List.mem_cons_of_mem _ (List.mem_cons_self ..)) (List.mem_cons_self ..)).mono ?_
        clear hM hHeld
        rintro e w62 ⟨Az52, cz52, az52, bz52, rfl, hM⟩
        refine ⟨_, rfl, ?_⟩
        refine hK.out _ _ ⟨hM.cell (t := 24) (xs := #[.slice A0 l0.length c0, .bool o0]) (List.mem_cons_of_mem _ (List.mem_cons_of_mem _ (List.mem_cons_of_mem _ (List.mem_cons_of_mem _ (List.mem_cons_of_mem _ (List.mem_cons_of_mem _ (List.mem_cons_self ..))))))) 0, hM.cell (t := 24) (xs := #[.slice A0 l0.length c0, .bool o0]) (List.mem_cons_of_mem _ (List.mem_cons_of_mem _ (List.mem_cons_of_mem _ (List.mem_cons_of_mem _ (List.mem_cons_of_mem _ (List.mem_cons_of_mem _ (List.mem_cons_self ..))))))) 1, hM.cell (t := 24) (xs := #[.slice A1 l1.length c1, .bool o1]) (List.mem_cons_of_mem _ (List.mem_cons_of_mem _ (List.mem_cons_of_mem _ (List.mem_cons_of_mem _ (List.mem_cons_of_mem _ (List.mem_cons_self ..)))))) 0, hM.cell (t := 24) (xs := #[.slice A1 l1.length c1, .bool o1]) (List.mem_cons_of_mem _ (List.mem_cons_of_mem _ (List.mem_cons_of_mem _ (List.mem_cons_of_mem _ (List.mem_cons_of_mem _ (List.mem_cons_self ..)))))) 1⟩ (fun hHeld => ?_)
        clear hK K
        refine norm_ (a' := ?_) ?_ ?_
        rotate_left
        · show Act.put _ (some 99) _ = _
          simp only [Act.put, List.setIfInBounds_toArray, List.set_cons_zero, List.set_cons_succ, i64_w, i32_w]
          rfl
        refine pure_ (i := 5) (N := some 94) (v := ?_) (a' := ?_) #[true, true, true, true, true, true, false, false, true, false, false] rfl rfl (any_of HT_.out (by kernel_rfl)) (fun _ _ _ h => h) (Or.inl ⟨by rfl, ?_⟩) ?_ ?_
        rotate_left
        · intro w'
          go_simp
          with_reducible rfl
        rotate_left
        · simp only [Act.put, List.setIfInBounds_toArray, List.set_cons_zero, List.set_cons_succ, i64_w, i32_w]
          rfl
        refine pure_ (i := 6) (N := some 100) (v := ?_) (a' := ?_) #[true, true, true, true, true, true, true, false, true, false, false] rfl rfl (any_of HT_.out (by kernel_rfl)) (fun _ _ _ h => h) (Or.inl ⟨by rfl, ?_⟩) ?_ ?_
        rotate_left
        · intro w'
          go_simp
          with_reducible rfl
        rotate_left
        · simp only [Act.put, List.setIfInBounds_toArray, List.set_cons_zero, List.set_cons_succ, i64_w, i32_w]
          rfl
        refine pure_ (i := 7) (N := some 101) (v := ?_) (a' := ?_) #[true, true, true, true, true, true, true, true, true, false, false] rfl rfl (any_of HT_.out (by kernel_rfl)) (fun _ _ _ h => h) (Or.inl ⟨by rfl, ?_⟩) ?_ ?_
        rotate_left
        · intro w'
          go_simp
          with_reducible rfl
        rotate_left
        · simp only [Act.put, List.setIfInBounds_toArray, List.set_cons_zero, List.set_cons_succ, i64_w, i32_w]
          rfl
        exact norm_ (by simp only [putAll, Act.put, List.setIfInBounds_toArray, List.set_cons_zero, List.set_cons_succ]) (hCont (⟨Ax50, cx50, ax50, bx50⟩, ⟨Ay51, cy51, ay51, by51⟩, ⟨Az52, cz52, az52, bz52⟩, g15) _ ⟨hHeld, hM⟩)
    · skip
      refine box_step ?hg (N := 15) ?hd (cs := #[.slice none 0 0, .bool false]) (t := 26) ?hr ?_; (case hd => rfl); (case hg => rfl); (case hr => first | (go_simp; done) | (go_simp; rfl))
      intro g15 hg w63 hbox hb
      replace hM := hM.box hg hbox hb
      clear hg hbox hb hHeld
      refine hK.out _ _ ⟨hM.cell (t := 24) (xs := #[.slice A0 l0.length c0, .bool o0]) (List.mem_cons_of_mem _ (List.mem_cons_of_mem _ (List.mem_cons_of_mem _ (List.mem_cons_of_mem _ (List.mem_cons_of_mem _ (List.mem_cons_of_mem _ (List.mem_cons_self ..))))))) 0, hM.cell (t := 24) (xs := #[.slice A0 l0.length c0, .bool o0]) (List.mem_cons_of_mem _ (List.mem_cons_of_mem _ (List.mem_cons_of_mem _ (List.mem_cons_of_mem _ (List.mem_cons_of_mem _ (List.mem_cons_of_mem _ (List.mem_cons_self ..))))))) 1, hM.cell (t := 24) (xs := #[.slice A1 l1.length c1, .bool o1]) (List.mem_cons_of_mem _ (List.mem_cons_of_mem _ (List.mem_cons_of_mem _ (List.mem_cons_of_mem _ (List.mem_cons_of_mem _ (List.mem_cons_self ..)))))) 0, hM.cell (t := 24) (xs := #[.slice A1 l1.length c1, .bool o1]) (List.mem_cons_of_mem _ (List.mem_cons_of_mem _ (List.mem_cons_of_mem _ (List.mem_cons_of_mem _ (List.mem_cons_of_mem _ (List.mem_cons_self ..)))))) 1⟩ (fun hHeld => ?_)
      clear hK K
      refine norm_ (a' := ?_) ?_ ?_
      rotate_left
      · show Act.put _ (some 15) _ = _
        simp only [Act.put, List.setIfInBounds_toArray, List.set_cons_zero, List.set_cons_succ, i64_w, i32_w]
        rfl
      refine one_ (i := 1) (N := some 96) #[true, true, true, false, false, false, false, false, true, false, false] rfl rfl (one_of HT_.out (by kernel_rfl)) (by decide) (fun K hK => ?_)
      refine goes_ Try.func9 (by kernel_rfl) rfl #[.agg #[.slice A0 l0.length c0, .bool o0]] (by rfl) rfl rfl (by (try simp only [List.map_toArray, List.map_cons, List.map_nil]); first | done | rfl | (simp only [List.length_drop, List.length_take]; rfl)) ?_
      refine (toG k HC0.out hc0 t0 hM).mono ?_
      clear hM hHeld
      rintro e w64 ⟨Ax50, cx50, ax50, bx50, rfl, hM⟩
      refine ⟨_, rfl, ?_⟩
      refine hK.out _ _ ⟨hM.cell (t := 24) (xs := #[.slice A0 l0.length c0, .bool o0]) (List.mem_cons_of_mem _ (List.mem_cons_of_mem _ (List.mem_cons_of_mem _ (List.mem_cons_of_mem _ (List.mem_cons_of_mem _ (List.mem_cons_of_mem _ (List.mem_cons_self ..))))))) 0, hM.cell (t := 24) (xs := #[.slice A0 l0.length c0, .bool o0]) (List.mem_cons_of_mem _ (List.mem_cons_of_mem _ (List.mem_cons_of_mem _ (List.mem_cons_of_mem _ (List.mem_cons_of_mem _ (List.mem_cons_of_mem _ (List.mem_cons_self ..))))))) 1, hM.cell (t := 24) (xs := #[.slice A1 l1.length c1, .bool o1]) (List.mem_cons_of_mem _ (List.mem_cons_of_mem _ (List.mem_cons_of_mem _ (List.mem_cons_of_mem _ (List.mem_cons_of_mem _ (List.mem_cons_self ..)))))) 0, hM.cell (t := 24) (xs := #[.slice A1 l1.length c1, .bool o1]) (List.mem_cons_of_mem _ (List.mem_cons_of_mem _ (List.mem_cons_of_mem _ (List.mem_cons_of_mem _ (List.mem_cons_of_mem _ (List.mem_cons_self ..)))))) 1⟩ (fun hHeld => ?_)
      clear hK K
      refine norm_ (a' := ?_) ?_ ?_
      rotate_left
      · show Act.put _ (some 96) _ = _
        simp only [Act.put, List.setIfInBounds_toArray, List.set_cons_zero, List.set_cons_succ, i64_w, i32_w]
        rfl
      refine one_ (i := 3) (N := some 98) #[true, true, true, true, false, false, false, false, true, false, false] rfl rfl (one_of HT_.out (by kernel_rfl)) (by decide) (fun K hK => ?_)
      refine goes_ Try.func9 (by kernel_rfl) rfl #[.agg #[.slice A1 l1.length c1, .bool o1]] (by rfl) rfl rfl (by (try simp only [List.map_toArray, List.map_cons, List.map_nil]); first | done | rfl | (simp only [List.length_drop, List.length_take]; rfl)) ?_
      refine (toG k HC1.out hc1 t1' hM).mono ?_
      clear hM hHeld
      rintro e w65 ⟨Ay51, cy51, ay51, by51, rfl, hM⟩
      refine ⟨_, rfl, ?_⟩
      refine hK.out _ _ ⟨hM.cell (t := 24) (xs := #[.slice A0 l0.length c0, .bool o0]) (List.mem_cons_of_mem _ (List.mem_cons_of_mem _ (List.mem_cons_of_mem _ (List.mem_cons_of_mem _ (List.mem_cons_of_mem _ (List.mem_cons_of_mem _ (List.mem_cons_self ..))))))) 0, hM.cell (t := 24) (xs := #[.slice A0 l0.length c0, .bool o0]) (List.mem_cons_of_mem _ (List.mem_cons_of_mem _ (List.mem_cons_of_mem _ (List.mem_cons_of_mem _ (List.mem_cons_of_mem _ (List.mem_cons_of_mem _ (List.mem_cons_self ..))))))) 1, hM.cell (t := 24) (xs := #[.slice A1 l1.length c1, .bool o1]) (List.mem_cons_of_mem _ (List.mem_cons_of_mem _ (List.mem_cons_of_mem _ (List.mem_cons_of_mem _ (List.mem_cons_of_mem _ (List.mem_cons_self ..)))))) 0, hM.cell (t := 24) (xs := #[.slice A1 l1.length c1, .bool o1]) (List.mem_cons_of_mem _ (List.mem_cons_of_mem _ (List.mem_cons_of_mem _ (List.mem_cons_of_mem _ (List.mem_cons_of_mem _ (List.mem_cons_self ..)))))) 1⟩ (fun hHeld => ?_)
      clear hK K
      refine norm_ (a' := ?_) ?_ ?_
      rotate_left
      · show Act.put _ (some 98) _ = _
        simp only [Act.put, List.setIfInBounds_toArray, List.set_cons_zero, List.set_cons_succ, i64_w, i32_w]
        rfl
      refine one_ (i := 4) (N := some 99) #[true, true, true, true, true, false, false, false, true, false, false] rfl rfl (one_of HT_.out (by kernel_rfl)) (by decide) (fun K hK => ?_)
      refine goes_ Try.func10 (by kernel_rfl) rfl #[.agg #[.slice Ax50 l0.length cx50, .bool o0], .agg #[.slice Ay51 l1.length cy51, .bool o1]] (by rfl) rfl rfl (by (try simp only [List.map_toArray, List.map_cons, List.map_nil]); first | done | rfl | (simp only [List.length_drop, List.length_take]; rfl)) ?_
      refine (implJ k hI hM (List.mem_cons_of_mem _ (List.mem_cons_self ..)) (List.mem_cons_self ..)).mono ?_
      clear hM hHeld
      rintro e w66 ⟨Az52, cz52, az52, bz52, rfl, hM⟩
      refine ⟨_, rfl, ?_⟩
      refine hK.out _ _ ⟨hM.cell (t := 24) (xs := #[.slice A0 l0.length c0, .bool o0]) (List.mem_cons_of_mem _ (List.mem_cons_of_mem _ (List.mem_cons_of_mem _ (List.mem_cons_of_mem _ (List.mem_cons_of_mem _ (List.mem_cons_of_mem _ (List.mem_cons_self ..))))))) 0, hM.cell (t := 24) (xs := #[.slice A0 l0.length c0, .bool o0]) (List.mem_cons_of_mem _ (List.mem_cons_of_mem _ (List.mem_cons_of_mem _ (List.mem_cons_of_mem _ (List.mem_cons_of_mem _ (List.mem_cons_of_mem _ (List.mem_cons_self ..))))))) 1, hM.cell (t := 24) (xs := #[.slice A1 l1.length c1, .bool o1]) (List.mem_cons_of_mem _ (List.mem_cons_of_mem _ (List.mem_cons_of_mem _ (List.mem_cons_of_mem _ (List.mem_cons_of_mem _ (List.mem_cons_self ..)))))) 0, hM.cell (t := 24) (xs := #[.slice A1 l1.length c1, .bool o1]) (List.mem_cons_of_mem _ (List.mem_cons_of_mem _ (List.mem_cons_of_mem _ (List.mem_cons_of_mem _ (List.mem_cons_of_mem _ (List.mem_cons_self ..)))))) 1⟩ (fun hHeld => ?_)
      clear hK K
      refine norm_ (a' := ?_) ?_ ?_
      rotate_left
      · show Act.put _ (some 99) _ = _
        simp only [Act.put, List.setIfInBounds_toArray, List.set_cons_zero, List.set_cons_succ, i64_w, i32_w]
        rfl
      refine pure_ (i := 5) (N := some 94) (v := ?_) (a' := ?_) #[true, true, true, true, true, true, false, false, true, false, false] rfl rfl (any_of HT_.out (by kernel_rfl)) (fun _ _ _ h => h) (Or.inl ⟨by rfl, ?_⟩) ?_ ?_
      rotate_left
      · intro w'
        go_simp
        with_reducible rfl
      rotate_left
      · simp only [Act.put, List.setIfInBounds_toArray, List.set_cons_zero, List.set_cons_succ, i64_w, i32_w]
        rfl
      refine pure_ (i := 6) (N := some 100) (v := ?_) (a' := ?_) #[true, true, true, true, true, true, true, false, true, false, false] rfl rfl (any_of HT_.out (by kernel_rfl)) (fun _ _ _ h => h) (Or.inl ⟨by rfl, ?_⟩) ?_ ?_
      rotate_left
      · intro w'
        go_simp
        with_reducible rfl
      rotate_left
      · simp only [Act.put, List.setIfInBounds_toArray, List.set_cons_zero, List.set_cons_succ, i64_w, i32_w]
        rfl
      refine pure_ (i := 7) (N := some 101) (v := ?_) (a' := ?_) #[true, true, true, true, true, true, true, true, true, false, false] rfl rfl (any_of HT_.out (by kernel_rfl)) (fun _ _ _ h => h) (Or.inl ⟨by rfl, ?_⟩) ?_ ?_
      rotate_left
      · intro w'
        go_simp
        with_reducible rfl
      rotate_left
      · simp only [Act.put, List.setIfInBounds_toArray, List.set_cons_zero, List.set_cons_succ, i64_w, i32_w]
        rfl
      exact norm_ (by simp only [putAll, Act.put, List.setIfInBounds_toArray, List.set_cons_zero, List.set_cons_succ]) (hCont (⟨Ax50, cx50, ax50, bx50⟩, ⟨Ay51, cy51, ay51, by51⟩, ⟨Az52, cz52, az52, bz52⟩, g15) _ ⟨hHeld, hM⟩)
  clear hM hHeld
  rintro ⟨⟨Ax50, cx50, ax50, bx50⟩, ⟨Ay51, cy51, ay51, by51⟩, ⟨Az52, cz52, az52, bz52⟩, g15⟩ w67 ⟨hHeld, hM⟩
  dsimp only at hM hHeld ⊢
  refine norm_ (a' := ?_) ?_ ?_
  rotate_left
  · simp only [putAll, Act.put, List.setIfInBounds_toArray, List.set_cons_zero, List.set_cons_succ]
    rfl
  refine one_ (i := 9) (N := none) #[true, true, true, true, true, true, true, true, true, true, false] rfl rfl (one_of HT_.out (by kernel_rfl)) (by decide) (fun K hK => ?_)
  have hz_g15_0 : w67.cell? ⟨g15, 0, none⟩ = some (.slice none 0 0) := hM.cell (t := 26) (xs := #[.slice none 0 0, .bool false]) (List.mem_cons_self ..) 0
  have hf_g15_0 : w67.frozen? ⟨g15, 0, none⟩ = false := hM.frozen (t := 26) (xs := #[.slice none 0 0, .bool false]) (List.mem_cons_self ..) 0
  have hz_g15_1 : w67.cell? ⟨g15, 1, none⟩ = some (.bool false) := hM.cell (t := 26) (xs := #[.slice none 0 0, .bool false]) (List.mem_cons_self ..) 1
  have hf_g15_1 : w67.frozen? ⟨g15, 1, none⟩ = false := hM.frozen (t := 26) (xs := #[.slice none 0 0, .bool false]) (List.mem_cons_self ..) 1
  refine skip_ (w1 := ?_) (by rfl) rfl ?_ ?_
  rotate_left
  · go_simp
    rfl
  clear hHeld hz_g15_0 hf_g15_0 hz_g15_1 hf_g15_1
  replace hM := hM.set2 (.slice Az52 R.length cz52) (.bool ro)
  refine hK.out _ _ ⟨hM.cell (t := 24) (xs := #[.slice A0 l0.length c0, .bool o0]) (List.mem_cons_of_mem _ (List.mem_cons_of_mem _ (List.mem_cons_of_mem _ (List.mem_cons_of_mem _ (List.mem_cons_of_mem _ (List.mem_cons_of_mem _ (List.mem_cons_self ..))))))) 0, hM.cell (t := 24) (xs := #[.slice A0 l0.length c0, .bool o0]) (List.mem_cons_of_mem _ (List.mem_cons_of_mem _ (List.mem_cons_of_mem _ (List.mem_cons_of_mem _ (List.mem_cons_of_mem _ (List.mem_cons_of_mem _ (List.mem_cons_self ..))))))) 1, hM.cell (t := 24) (xs := #[.slice A1 l1.length c1, .bool o1]) (List.mem_cons_of_mem _ (List.mem_cons_of_mem _ (List.mem_cons_of_mem _ (List.mem_cons_of_mem _ (List.mem_cons_of_mem _ (List.mem_cons_self ..)))))) 0, hM.cell (t := 24) (xs := #[.slice A1 l1.length c1, .bool o1]) (List.mem_cons_of_mem _ (List.mem_cons_of_mem _ (List.mem_cons_of_mem _ (List.mem_cons_of_mem _ (List.mem_cons_of_mem _ (List.mem_cons_self ..)))))) 1⟩ (fun hHeld => ?_)
  clear hK K
  generalize ((w67.setCell ⟨g15, 0, none⟩ (.slice Az52 R.length cz52)).setCell ⟨g15, 1, none⟩ (.bool ro)) = w68 at hM hHeld ⊢
  refine pure_ (i := 10) (N := some 16) (v := ?_) (a' := ?_) #[true, true, true, true, true, true, true, true, true, true, true] rfl rfl (any_of HT_.out (by kernel_rfl)) (fun _ _ _ h => h) (Or.inl ⟨by rfl, ?_⟩) ?_ ?_
  rotate_left
  · intro w'
    go_simp
    with_reducible rfl
  rotate_left
  · simp only [Act.put, List.setIfInBounds_toArray, List.set_cons_zero, List.set_cons_succ, i64_w, i32_w]
    rfl
  refine done_ (done_of HT_.out (by kernel_rfl)) ?_
  clear hHeld
  replace hM := hM.to2
  replace hM := hM.drop
  replace hM := hM.to1
  replace hM := hM.drop
  have hz_g15_0 : w68.cell? ⟨g15, 0, none⟩ = some (.slice Az52 R.length cz52) := hM.cell (t := 26) (xs := #[.slice Az52 R.length cz52, .bool ro]) (List.mem_cons_self ..) 0
  have hz_g15_1 : w68.cell? ⟨g15, 1, none⟩ = some (.bool ro) := hM.cell (t := 26) (xs := #[.slice Az52 R.length cz52, .bool ro]) (List.mem_cons_self ..) 1
  have hz_g6_0 : w68.cell? ⟨g6, 0, none⟩ = some (.slice Az7 R.length cz7) := hM.cell (t := 26) (xs := #[.slice Az7 R.length cz7, .bool ro]) (List.mem_cons_of_mem _ (List.mem_cons_of_mem _ (List.mem_cons_of_mem _ (List.mem_cons_of_mem _ (List.mem_cons_self ..))))) 0
  have hz_g6_1 : w68.cell? ⟨g6, 1, none⟩ = some (.bool ro) := hM.cell (t := 26) (xs := #[.slice Az7 R.length cz7, .bool ro]) (List.mem_cons_of_mem _ (List.mem_cons_of_mem _ (List.mem_cons_of_mem _ (List.mem_cons_of_mem _ (List.mem_cons_self ..))))) 1
  go_upto_region 35 with (first
    | (go_at_call 11; refine (eqG k qR hM (List.mem_cons_self ..) (List.mem_cons_of_mem _ (List.mem_cons_of_mem _ (List.mem_cons_of_mem _ (List.mem_cons_of_mem _ (List.mem_cons_self ..)))))).mono ?_; clear hM hz_g15_0 hz_g15_1 hz_g6_0 hz_g6_1; rintro e w69 ⟨rfl, hM⟩))
  have hz_g10_0 : w69.cell? ⟨g10, 0, none⟩ = some (.slice Ag32 R.length cg32) := hM.cell (t := 26) (xs := #[.slice Ag32 R.length cg32, .bool ro]) (List.mem_cons_of_mem _ (List.mem_cons_self ..)) 0
  have hz_g10_1 : w69.cell? ⟨g10, 1, none⟩ = some (.bool ro) := hM.cell (t := 26) (xs := #[.slice Ag32 R.length cg32, .bool ro]) (List.mem_cons_of_mem _ (List.mem_cons_self ..)) 1
  go_wp2_with (go_at_call 13; refine (heldG k hh hM (List.mem_cons_of_mem _ (List.mem_cons_self ..))).mono ?_; clear hM hz_g10_0 hz_g10_1; rintro e w70 ⟨rfl, hM⟩)
  go_ret
  exact ⟨rfl, hM.below⟩
end
section
variable (A0 : Option Addr) (c0 : Nat) (l0 : List Int) (o0 : Bool) (A1 : Option Addr) (c1 : Nat) (l1 : List Int) (o1 : Bool) (w : World)
set_option maxRecDepth 100000 in
set_option maxHeartbeats 8000000 in
theorem e1 (t1 : Int) (hC0 : ki.C w A0 l0.length l0) (hc0 : l0.length ≤ c0) (h1 : laws_szGraph.f l0 o0 1048576 = some t1) (hn : t1 < 0) :
    Calls Try.prog 3 #[.agg #[.slice A0 l0.length c0, .bool o0], .agg #[.slice A1 l1.length c1, .bool o1]] w fun e w' => e = .returned (.bool true) ∧ Below w.heap.size w w' := by
  have hu24 := Try.underlying24
  have HC0 := Aside0.mk hC0
  have hd1 : decide (t1 < 0) = true := decide_eq_true hn
  have hM := M.start w
  clear hC0
  go_enter Try.func3, Try.ntmps3
  go_upto_region 2 with (first
    | ((with_reducible refine gate_dst (N := 2) rfl ?_); refine box_event ?hg (N := 2) ?hd (cs := #[.slice A0 l0.length c0, .bool o0]) (t := 24) ?hr ?_; (case hd => rfl); (case hg => rfl); (case hr => first | (go_simp; done) | (go_simp; rfl)); intro g2 hg w1 hbox hb; replace hM := hM.box hg hbox hb; clear hg hbox hb)
    | ((with_reducible refine gate_dst (N := 3) rfl ?_); refine box_event ?hg (N := 3) ?hd (cs := #[.slice A1 l1.length c1, .bool o1]) (t := 24) ?hr ?_; (case hd => rfl); (case hg => rfl); (case hr => first | (go_simp; done) | (go_simp; rfl)); intro g3 hg w2 hbox hb; replace hM := hM.box hg hbox hb; clear hg hbox hb))
  have hz_g2_0 : w2.cell? ⟨g2, 0, none⟩ = some (.slice A0 l0.length c0) := hM.cell (t := 24) (xs := #[.slice A0 l0.length c0, .bool o0]) (List.mem_cons_of_mem _ (List.mem_cons_self ..)) 0
  have hz_g2_1 : w2.cell? ⟨g2, 1, none⟩ = some (.bool o0) := hM.cell (t := 24) (xs := #[.slice A0 l0.length c0, .bool o0]) (List.mem_cons_of_mem _ (List.mem_cons_self ..)) 1
  go_wp2_with (go_at_call 7; refine (szG HC0.out hc0 h1 hM).mono ?_; clear hM hz_g2_0 hz_g2_1; rintro e w3 ⟨rfl, hM⟩)
  go_ret
  exact ⟨rfl, hM.below⟩
set_option maxRecDepth 100000 in
set_option maxHeartbeats 8000000 in
theorem e2 (t1 t2 : Int) (hC0 : ki.C w A0 l0.length l0) (hc0 : l0.length ≤ c0) (hC1 : ki.C w A1 l1.length l1) (hc1 : l1.length ≤ c1)
    (h1 : laws_szGraph.f l0 o0 1048576 = some t1) (hp : ¬ t1 < 0) (h2 : laws_szGraph.f l1 o1 t1 = some t2) (hn : t2 < 0) :
    Calls Try.prog 3 #[.agg #[.slice A0 l0.length c0, .bool o0], .agg #[.slice A1 l1.length c1, .bool o1]] w fun e w' => e = .returned (.bool true) ∧ Below w.heap.size w w' := by
  have hu24 := Try.underlying24
  have HC0 := Aside0.mk hC0
  have HC1 := Aside0.mk hC1
  have hd1 : decide (t1 < 0) = false := decide_eq_false hp
  have hd2 : decide (t2 < 0) = true := decide_eq_true hn
  have hM := M.start w
  clear hC0 hC1
  go_enter Try.func3, Try.ntmps3
  go_upto_region 2 with (first
    | ((with_reducible refine gate_dst (N := 2) rfl ?_); refine box_event ?hg (N := 2) ?hd (cs := #[.slice A0 l0.length c0, .bool o0]) (t := 24) ?hr ?_; (case hd => rfl); (case hg => rfl); (case hr => first | (go_simp; done) | (go_simp; rfl)); intro g2 hg w1 hbox hb; replace hM := hM.box hg hbox hb; clear hg hbox hb)
    | ((with_reducible refine gate_dst (N := 3) rfl ?_); refine box_event ?hg (N := 3) ?hd (cs := #[.slice A1 l1.length c1, .bool o1]) (t := 24) ?hr ?_; (case hd => rfl); (case hg => rfl); (case hr => first | (go_simp; done) | (go_simp; rfl)); intro g3 hg w2 hbox hb; replace hM := hM.box hg hbox hb; clear hg hbox hb))
  have hz_g2_0 : w2.cell? ⟨g2, 0, none⟩ = some (.slice A0 l0.length c0) := hM.cell (t := 24) (xs := #[.slice A0 l0.length c0, .bool o0]) (List.mem_cons_of_mem _ (List.mem_cons_self ..)) 0
  have hz_g2_1 : w2.cell? ⟨g2, 1, none⟩ = some (.bool o0) := hM.cell (t := 24) (xs := #[.slice A0 l0.length c0, .bool o0]) (List.mem_cons_of_mem _ (List.mem_cons_self ..)) 1
  go_upto_region 5 with (first
    | (go_at_call 7; refine (szG HC0.out hc0 h1 hM).mono ?_; clear hM hz_g2_0 hz_g2_1; rintro e w3 ⟨rfl, hM⟩))
  have hz_g3_0 : w3.cell? ⟨g3, 0, none⟩ = some (.slice A1 l1.length c1) := hM.cell (t := 24) (xs := #[.slice A1 l1.length c1, .bool o1]) (List.mem_cons_self ..) 0
  have hz_g3_1 : w3.cell? ⟨g3, 1, none⟩ = some (.bool o1) := hM.cell (t := 24) (xs := #[.slice A1 l1.length c1, .bool o1]) (List.mem_cons_self ..) 1
  go_wp2_with (go_at_call 7; refine (szG HC1.out hc1 h2 hM).mono ?_; clear hM hz_g3_0 hz_g3_1; rintro e w4 ⟨rfl, hM⟩)
  go_ret
  exact ⟨rfl, hM.below⟩
/-- The law's function answers true. -/
theorem law (hm0 : l0.length ≤ maxLen) (_ : ∀ x ∈ l0, (Lit.int .i64 x).wf = true) (hm1 : l1.length ≤ maxLen) (_ : ∀ x ∈ l1, (Lit.int .i64 x).wf = true) (hC0 : ki.C w A0 l0.length l0) (hc0 : l0.length ≤ c0) (hC1 : ki.C w A1 l1.length l1) (hc1 : l1.length ≤ c1) :
    Calls Try.prog 3 #[.agg #[.slice A0 l0.length c0, .bool o0], .agg #[.slice A1 l1.length c1, .bool o1]] w fun e w' => e = .returned (.bool true) ∧ Below w.heap.size w w' := by
  have h1 := szGraph_f l0 o0 1048576 hm0 (by decide) (by decide)
  by_cases g1 : (1048576 : Int) < (l0.length : Int)
  · rw [if_pos g1] at h1
    exact e1 A0 c0 l0 o0 A1 c1 l1 o1 w _ hC0 hc0 h1 (by decide)
  · rw [if_neg g1] at h1
    have h2 := szGraph_f l1 o1 (1048576 - (l0.length : Int)) hm1 (by omega) (by omega)
    by_cases g2 : 1048576 - (l0.length : Int) < (l1.length : Int)
    · rw [if_pos g2] at h2
      exact e2 A0 c0 l0 o0 A1 c1 l1 o1 w _ _ hC0 hc0 hC1 hc1 h1 (by omega) h2 (by decide)
    · rw [if_neg g2] at h2
      obtain ⟨R, ro, rb, hS, hI, hR⟩ := join_both l0 l1 o0 o1 (by omega) (by omega) 3000000 (by omega)
      exact main A0 c0 l0 o0 A1 c1 l1 o1 w _ _ hC0 hc0 hC1 hc1 h1 (by omega) h2 (by omega) 3000000 R _ _ _ ro rb _ _ _
        (toGraph_f l0 o0 (by omega) _ (by omega)) (toGraph_f l1 o1 (by omega) _ (by omega)) hS hI
        (eqGraph_self l0 o0 (by omega) _ (by omega)) (eqGraph_self l1 o1 (by omega) _ (by omega)) (eqGraph_self R ro (by omega) _ (by omega))
        (markNG_f 1 l0 o0 (by omega) (by decide) _ (by omega)) (markNG_f (1 + l0.length) l1 o1 (by omega) (by omega) _ (by omega)) (by omega)
        (markNG_f 1 R ro (by omega) (by decide) _ (by omega)) (heldNG_f 1 R.length ro (by omega) (by decide) _ (by omega)) (by omega)
end
end Go.Proofs.Yteabfdcobkgmmaa.Join
