/- What SolutionsBySize computes: the program's walk, once. -/
import Derived.Test.YthjbccbaobkobaaEls
import Derived.Deep.RegionWith
import Derived.Deep.OwnRows
namespace Go.Proofs.Ythjbccbaobkobaa.Esz
open Go.RowKit Go.Proofs.Ythjbccbaobkobaa.PBase Go.Proofs.YthjbccbaobkobaaW.PrintWords Go.Proofs.YthjbccbaobkobaaW.PrintLast Go.Proofs.YthjbccbaobkobaaW.PrintMore
open Go.Proofs.Ythjbccbaobkobaa.Lin Go.Proofs.Ythjbccbaobkobaa.Bit Go.Proofs.Ythjbccbaobkobaa.Gra Go.Proofs.Ythjbccbaobkobaa.Red Go.Proofs.Ythjbccbaobkobaa.Ker Go.Proofs.Ythjbccbaobkobaa.Ext Go.Proofs.Ythjbccbaobkobaa.Rea Go.Proofs.Ythjbccbaobkobaa.Sol Go.Proofs.Ythjbccbaobkobaa.Sog Go.Proofs.Ythjbccbaobkobaa.Exd Go.Proofs.Ythjbccbaobkobaa.Pat Go.Proofs.Ythjbccbaobkobaa.Ptw Go.Proofs.Ythjbccbaobkobaa.Eqp Go.Proofs.Ythjbccbaobkobaa.Els

/-- One more of a size. -/
def tstep (one : Nat) (out : List Int) (q : Nat) : List Int := out.set (Pop.pop 16 (one ^^^ q)) (rd out ((Pop.pop 16 (one ^^^ q) : Nat) : Int) + 1)
def tally (one : Nat) (qs : List Nat) (n : Nat) : List Int := qs.foldl (tstep one) (List.replicate (n + 1) 0)
theorem tally_snoc (one : Nat) (qs : List Nat) (q n : Nat) : tally one (qs ++ [q]) n = tstep one (tally one qs n) q := by simp [tally]
theorem tally_len (one : Nat) (qs : List Nat) (n : Nat) : (tally one qs n).length = n + 1 := by
  have h : ∀ k, k ≤ qs.length → (tally one (qs.take k) n).length = n + 1 := by
    intro k
    induction k with
    | zero => intro _; rw [List.take_zero]; simp [tally]
    | succ k ih =>
      intro hk
      rw [List.take_succ_eq_append_getElem (by omega), tally_snoc, tstep, List.length_set]
      exact ih (by omega)
  have := h qs.length (Nat.le_refl _)
  rwa [List.take_length] at this
theorem pop_lt : ∀ (d n x : Nat), x < 2 ^ n → Pop.pop d x ≤ n
  | 0, _, _, _ => Nat.zero_le _
  | d + 1, 0, x, h => by
    have : x = 0 := by simpa using h
    subst this
    unfold Pop.pop
    have := pop_lt d 0 (0 / 2) (by simp)
    omega
  | d + 1, n + 1, x, h => by
    unfold Pop.pop
    have := pop_lt d n (x / 2) (by rw [Nat.pow_succ] at h; omega)
    omega
theorem made_R (W : World) (n0 : Nat) (hb : n0 ≤ W.heap.size) (m : Nat) (hm : m ≤ 1000) : ki.R 3 (W.alloc (.cells (madeCells #[.int .i64 0] m) 3)) n0 (fun _ => True) (.slice (some ⟨W.heap.size, 0, none⟩) m m) (List.replicate m (0 : Int)) :=
  Kd.R_of_own (by rw [List.length_replicate]; exact own_made_of (enc := Value.int .i64) (d := (0 : Int)) W n0 3 m hb (by omega)) (fun _ _ => trivial)
theorem rd_set (l : List Int) (i j : Nat) (v : Int) : rd (l.set i v) (j : Int) = if i = j ∧ i < l.length then v else rd l (j : Int) := by
  unfold rd
  rw [Int.toNat_natCast, List.getD_eq_getElem?_getD, List.getD_eq_getElem?_getD, List.getElem?_set]
  by_cases h : i = j
  · subst h
    by_cases h2 : i < l.length
    · rw [if_pos rfl, if_pos h2, if_pos ⟨rfl, h2⟩]; rfl
    · rw [if_pos rfl, if_neg h2, if_neg (fun e => h2 e.2), List.getElem?_eq_none (by omega)]
  · rw [if_neg h, if_neg (fun e => h e.1)]
theorem tally_bound (one : Nat) (qs : List Nat) (n : Nat) : ∀ k, k ≤ qs.length → ∀ j : Nat, 0 ≤ rd (tally one (qs.take k) n) (j : Int) ∧ rd (tally one (qs.take k) n) (j : Int) ≤ (k : Int) := by
  intro k
  induction k with
  | zero =>
    intro _ j
    rw [List.take_zero]
    have h0 : rd (tally one [] n) (j : Int) = 0 := by
      show rd (List.replicate (n + 1) (0 : Int)) (j : Int) = 0
      unfold rd
      rw [Int.toNat_natCast, List.getD_eq_getElem?_getD, List.getElem?_replicate]
      split <;> rfl
    rw [h0]; omega
  | succ k ih =>
    intro hk j
    have h1 := ih (by omega) j
    have h2 := ih (by omega) (Pop.pop 16 (one ^^^ qs[k]))
    rw [List.take_succ_eq_append_getElem (by omega), tally_snoc, tstep, rd_set]
    split <;> omega
/-- What is told of a board with so many quiet patterns. -/
def szR (Q : List Nat) (ok : Bool) (one n : Nat) : List Int × Bool := if Q.length ≤ 8 then (if ok then tally one (sums Q) n else List.replicate (n + 1) 0, true) else ([], false)
def szF (l : List Int) (own : Bool) (x : Int) : List Int × Bool := if okS l x then szR (refQ (efs l own)) (slvd l own x) (red (refQ (efs l own)) (lef l own x)) l.length else ([], false)

set_option maxRecDepth 100000 in
set_option maxHeartbeats 4000000 in
theorem sz_calls (A : Option Addr) (c : Nat) (l : List Int) (own : Bool) (x : Int) (w : World) (hC : ki.C w A l.length l) (hc : l.length ≤ c) :
    Calls Try.prog 21 #[.agg #[.slice A l.length c, .bool own], .int .i64 x] w fun e w' => ∃ v0_ : Value, e = .returned (.tuple #[v0_, .bool (szF l own x).2]) ∧ ki.R 3 w' w.heap.size (fun _ => True) v0_ (szF l own x).1 ∧ Below w.heap.size w w' := by
  have hu := Try.underlying28
  have hgw := impl_isSet.calls A c l own (some ⟨w.heap.size + 1, 0, none⟩) 1 [x] _ ((w.alloc (.cells #[.slice A l.length c, .bool own] 28)).alloc (.cells #[.int .i64 x] 3)) (Kd.C_alloc (Kd.C_alloc hC _) _) hc (eq_one (by simp)) (by simp) rfl
  rw [okS_set] at hgw
  cases hG : okS l x with
  | false =>
    have HW : Aside0 (szF l own x = ([], false)) := ⟨by unfold szF; rw [hG]; rfl⟩
    rw [hG] at hgw
    clear hC hG
    generalize l.length = n at *
    go_enter Try.func21, Try.ntmps21
    go_wp2_with fail
    refine hgw.mono ?_
    rintro e w' ⟨rfl, hb⟩
    go_wp2
    go_ret2
    exact ⟨_, by rw [HW.out]; rfl, by rw [HW.out]; exact Kd.R_nil _ _ _ _ _, below_then (below_alloc (below_alloc (Below.refl _ _) _) _) (by simp; omega) hb⟩
  | true =>
    have HOK := Aside0.mk hG
    rw [hG] at hgw
    unfold okS at hG
    rw [Bool.and_eq_true, decide_eq_true_eq] at hG
    obtain ⟨hG, hx0, hx1⟩ := hG
    obtain ⟨x, rfl⟩ := Int.eq_ofNat_of_zero_le hx0
    obtain ⟨m, rfl, hgood⟩ := good_zs hG
    have HSO := Aside0.mk (fun W (h : Below w.heap.size w W) => solverOf_calls A c m own hgood (by rw [← zs_length m]; exact hc) W (by have := Kd.C_below hC h; rwa [zs_length] at this))
    have h16 := hgood.le
    have hx62 : x < 2 ^ 62 := by
      have h1 : x ≤ 2 ^ (zs m).length - 1 := by exact_mod_cast hx1
      have h2 := pow16 hgood
      rw [zs_length] at h1
      have h3 := Nat.two_pow_pos m.length
      exact Nat.lt_of_lt_of_le (show x < 2 ^ m.length by omega) (Nat.le_trans h2 (by decide))
    have HL : Aside0 ((tgls m own).length = m.length) := ⟨tgls_length m own⟩
    have HPT := Aside0.mk (fun n0 S pv qv iv P Q I (hk : Know (tgls m own) P Q I) w (hs : Sv w n0 S pv qv iv P Q I) => patterns_sv (tgls_lt16 hgood own) (by rw [tgls_length]; exact h16) hk w hs)
    have HSV := Aside0.mk (fun (n0 S : Nat) pv qv iv P Q I (hk : Know (tgls m own) P Q I) w (hs : Sv w n0 S pv qv iv P Q I) => solve_calls (tgls_lt16 hgood own) (by rw [tgls_length]; exact h16) hk x hx62 w hs)
    rw [zs_length] at *
    clear hC hG hgood hx0 hx1 hx62
    generalize hml : m.length = n at *
    have HLN := Aside0.mk hml
    clear hml
    go_enter Try.func21, Try.ntmps21
    go_wp2_with fail
    refine hgw.mono ?_
    rintro e w1 ⟨rfl, hb⟩
    have hcell0 : w1.cell? ⟨w.heap.size, 0, none⟩ = some (.slice A n c) := (hb.cell (p := ⟨w.heap.size, 0, none⟩) (by simp; omega)).trans (by simp)
    have hcell1 : w1.cell? ⟨w.heap.size, 1, none⟩ = some (.bool own) := (hb.cell (p := ⟨w.heap.size, 1, none⟩) (by simp; omega)).trans (by simp)
    have hB1 : Below w.heap.size w w1 := below_then (below_alloc (below_alloc (Below.refl _ _) _) _) (by simp; omega) hb
    have HB1 := Aside0.mk hB1
    have hmk : ∀ W : World, (Instr.makeSlice 22 (.int .i64 ((n : Int) + 1)) (.int .i64 ((n : Int) + 1))).run Try.prog W = .ok (.slice (some ⟨W.heap.size, 0, none⟩) (n + 1) (n + 1)) (W.alloc (.cells (madeCells #[.int .i64 0] (n + 1)) 3)) := fun W => run_make_row' (P := Try.prog) 22 3 (.int .i64 0) 8 Try.underlying22 info_int rfl .i64 .i64 (n + 1) (by omega) (by omega) W
    have hwr : IntKind.i64.wrap ((n : Int) + 1) = (n : Int) + 1 := by rw [IntKind.wrap_i64]; omega
    have hso := HSO.out
    have HBW := Aside0.mk (Below.refl w1.heap.size w1)
    have hw1 : w.heap.size < w1.heap.size := World.block_lt_of_cell? w1 _ hcell0
    have hd1 : w1.drew.cell? ⟨w.heap.size, 0, none⟩ = some (.slice A n c) := hcell0
    have hd2 : (w1.alloc (.cells (madeCells #[.int .i64 0] (n + 1)) 3)).cell? ⟨w.heap.size, 0, none⟩ = some (.slice A n c) := (((Below.refl w1.heap.size w1).alloc (Nat.le_refl _) _).cell (p := ⟨w.heap.size, 0, none⟩) hw1).trans hcell0
    have hd3 : (w1.alloc (.cells (madeCells #[.int .i64 0] (n + 1)) 3)).cell? ⟨w.heap.size, 1, none⟩ = some (.bool own) := (((Below.refl w1.heap.size w1).alloc (Nat.le_refl _) _).cell (p := ⟨w.heap.size, 1, none⟩) hw1).trans hcell1
    clear hgw hb hB1
    go_wp2_with fail
    go_region_with (go_at_call 42; refine (hso _ (by repeat (first | (with_reducible first | exact HB1.out | apply below_alloc | apply pw_below_drewN | apply below_drew1) | exact HB1.out))).mono ?_; rintro e w2 ⟨S, pv, qv, iv, P, Q, I, rfl, hsv, hk, hb2⟩; have hB12 : Below w1.heap.size w1 w2 := below_step (by repeat (first | (with_reducible first | exact HBW.out | apply below_alloc | apply pw_below_drewN | apply below_drew1) | exact HBW.out)) hb2; have hcell2 : w2.cell? ⟨w.heap.size, 0, none⟩ = some (.slice A n c) := (hB12.cell (p := ⟨w.heap.size, 0, none⟩) hw1).trans hcell0; have hcell3 : w2.cell? ⟨w.heap.size, 1, none⟩ = some (.bool own) := (hB12.cell (p := ⟨w.heap.size, 1, none⟩) hw1).trans hcell1)
    all_goals first
      | (have hdisc : w1.heap.size + 1 ≤ w2.heap.size := (by have h_ := hb2.size; simpa using h_)
         have hRf : ki.R 3 w2 w.heap.size (fun _ => True) (.slice (some ⟨w1.heap.size, 0, none⟩) (n + 1) (n + 1)) (List.replicate (n + 1) (0 : Int)) := Kd.R_below (by repeat (first | apply Kd.R_drewN | apply Kd.R_drew | exact made_R _ w.heap.size (Nat.le_of_lt hw1) (n + 1) (by omega))) hb2
         have hsvf : Sv w2 w.heap.size S pv qv iv P Q I := ⟨hsv.blk, Kd.R_lower hsv.p (by simp; omega), Kd.R_lower hsv.q (by simp; omega), Kd.R_lower hsv.i (by simp; omega)⟩
         have HBf : Below w.heap.size w w2 := below_step HB1.out hB12
         have hgf : w1.heap.size < w2.heap.size := hdisc
         obtain ⟨Wf, hWf⟩ : ∃ W, W = w2 := ⟨_, rfl⟩
         subst hWf
         clear hso hmk hwr hsv hb2 hB12 hcell0 hcell1 hcell2 hcell3 hd1 hd2 hd3 hw1 HBW HB1 hdisc
         generalize w1.heap.size = g at *
         have HB2 := Aside0.mk HBf
         have HK := Aside0.mk hk
         have HVf := Aside0.mk hsvf
         have HRf := Aside0.mk hRf
         have HGf := Aside0.mk hgf
         have HQS := Aside0.mk (show ∃ A c, qv = .slice A Q.length c from by have := Kd.R_slice hsvf.q; rwa [zs_length] at this)
         have hc1 := hsvf.c1
         clear hk hsvf hRf HBf hgf
         obtain ⟨Aq, cq, rfl⟩ := HQS.out
         by_cases h8 : Q.length ≤ 8
         · have h8b : decide ((8 : Int) < (Q.length : Int)) = false := decide_eq_false (by omega)
           have H8 := Aside0.mk h8
           have hsl := HSV.out _ _ _ _ _ _ _ _ HK.out Wf HVf.out
           go_wp2_with fail
           refine hsl.mono ?_
           rintro e w3 ⟨l', p', rfl, hre, hb3⟩
           have HB3 := Aside0.mk (below_then HB2.out HB2.out.size hb3)
           have HA := Aside0.mk (answer (m := m) (own := own) HK.out hre)
           have HPR := Aside0.mk (fun (h : l' = 0) => HK.out.inv.presses (lights := x) (p := p') (by rw [h] at hre; exact hre))
           have HV3 := Aside0.mk (HVf.out.below hb3)
           have HR3 := Aside0.mk (Kd.R_below HRf.out hb3)
           have HG3 := Aside0.mk (show g < w3.heap.size from Nat.lt_of_lt_of_le HGf.out hb3.size)
           clear hsl hre hb3
           have HC3 := Aside0.mk (HA.out.2.1)
           have HE3 := Aside0.mk (HA.out.2.2)
           by_cases h0 : l' = 0
           · have hbt : ((l' : Int) == 0) = true := by rw [h0]; rfl
             have HEQ : Aside0 (szF (zs m) own (x : Int) = (tally (red Q p') (sums Q) n, true)) := ⟨by
               unfold szF szR
               rw [HOK.out, if_pos rfl, HE3.out.1 h0, ← HC3.out h0, efs_zs, ← HK.out.inv.quiet_eq, if_pos h8, if_pos rfl, zs_length, HLN.out]⟩
             have hQn : ∀ b ∈ Q, b < 2 ^ n := fun b hb => by have := (HK.out.inv.qt b hb).1; rwa [HL.out] at this
             have hyn : red Q p' < 2 ^ n := red_lt hQn (by have := (HPR.out h0).1; rwa [HL.out] at this)
             have hsn : ∀ q ∈ sums Q, q < 2 ^ n := fun q hq => Sp.lt hQn (sums_sp Q q hq)
             have HS16 := Aside0.mk (fun i (hi : i < (sums Q).length) => (show red Q p' ^^^ (sums Q).getD i 0 < 2 ^ n by rw [gD_lt _ _ hi]; exact Nat.xor_lt_two_pow hyn (hsn _ (List.getElem_mem hi))))
             have H16 : Aside0 (∀ {z}, z < 2 ^ n → z < 2 ^ 16) := ⟨fun h => Nat.lt_of_lt_of_le h (Nat.pow_le_pow_right (by decide) h16)⟩
             have hy62 : red Q p' < 2 ^ 16 := H16.out hyn
             have HQB := Aside0.mk (fun i (hi : i < (sums Q).length) => (show (sums Q).getD i 0 < 2 ^ 16 by rw [gD_lt _ _ hi]; exact H16.out (hsn _ (List.getElem_mem hi))))
             have HSN := Aside0.mk (fun i (hi : i < (sums Q).length) => (show tally (red Q p') ((sums Q).take (i + 1)) n = tstep (red Q p') (tally (red Q p') ((sums Q).take i) n) ((sums Q).getD i 0) by rw [List.take_succ_eq_append_getElem hi, tally_snoc, gD_lt _ _ hi]))
             have HTB := Aside0.mk (tally_bound (red Q p') (sums Q) n)
             have HTL : Aside0 (∀ i, (tally (red Q p') ((sums Q).take i) n).length = n + 1) := ⟨fun i => tally_len _ _ _⟩
             have HTA : Aside0 ((sums Q).take (sums Q).length = sums Q) := ⟨List.take_length⟩
             have hsl : (sums Q).length ≤ 65536 := by
               rw [sums_len]
               exact Nat.le_trans (Nat.pow_le_pow_right (by decide) (Nat.le_trans h8 (by decide))) (Nat.le_refl (2 ^ 16))
             have HT0 : Aside0 (List.replicate (n + 1) (0 : Int) = tally (red Q p') ((sums Q).take 0) n) := ⟨by rw [List.take_zero]; rfl⟩
             rw [HT0.out] at HR3
             have hpt := HPT.out _ _ _ _ _ _ _ _ HK.out w3 HV3.out
             have hc1 := HV3.out.c1
             clear h0 HA HC3 HE3 HVf HV3 HSV HSO HPT HPR hQn hsn hyn HRf HT0 h8 h8b
             rw [hbt]
             clear hbt
             generalize red Q p' = y at *
             go_wp2_with fail
             refine hpt.mono ?_
             rintro e w4 ⟨v4, rfl, hR, hb4⟩
             have HB4 := Aside0.mk (below_then HB3.out HB3.out.size hb4)
             have HRg := Aside0.mk (Kd.R_mono (ok' := fun k => k ≠ g) (Kd.R_bound hR) (fun k hk => by have h1 := hk.2.1; have h2 := HG3.out; omega))
             have HR4 := Aside0.mk (Kd.R_below HR3.out hb4)
             have HGS := Aside0.mk (show w.heap.size ≤ g from Kd.R_base HR3.out g rfl)
             obtain ⟨A4, c4, hv4, hc4, hC4⟩ := Kd.R_reads hR
             subst hv4
             rw [zs_length] at *
             have HZ : Aside0 ((zs (sums Q)).length = (sums Q).length) := ⟨zs_length _⟩
             clear hR hb4 hpt hC4 hc1 HR3
             generalize sums Q = qs at *
             generalize qs.length = nq at *
             generalize w3.heap.size = n3 at *
             go_wp2
             go_loopw [43] (fun s wr => ∃ i : Nat, i ≤ nq ∧ s = .int .i64 i ∧ Aside0 (ki.R 3 wr w.heap.size (fun _ => True) (.slice (some ⟨g, 0, none⟩) (n + 1) (n + 1)) (tally y (qs.take i) n)) ∧ Aside0 (ki.R 3 wr n3 (fun k => k ≠ g) (.slice A4 nq c4) (zs qs)) ∧ Aside0 (Below w.heap.size w wr)) (fun s _ => nq - (intOf s).toNat)
             case atStart => exact ⟨0, Nat.zero_le _, rfl, HR4, HRg, HB4⟩
             case round =>
               clear HR4 HRg HB4
               obtain ⟨i, hi, rfl, HR, HP, HB⟩ := hrel
               by_cases hlt : i < nq
               · have hCj := (Kd.R_reads' HP.out).2.2
                 rw [HZ.out] at hCj
                 obtain ⟨ad, e1, hci⟩ := Kd.at_int hCj (i : Int) (by omega) (by omega)
                 subst e1
                 rw [Int.toNat_natCast, rd_zs] at hci
                 have hon := HS16.out i hlt
                 have hq16 := HQB.out i hlt
                 have HN := Aside0.mk (HSN.out i hlt)
                 have hli := HTL.out i
                 have hbd := HTB.out i hi
                 generalize qs.getD i 0 = q at *
                 have hxor := xorn y q (by omega) (by omega)
                 have ho16 := H16.out hon
                 have hpn := pop_lt 16 n (y ^^^ q) hon
                 have HST : Aside0 (tstep y (tally y (qs.take i) n) q = (tally y (qs.take i) n).set (Pop.pop 16 (y ^^^ q)) (rd (tally y (qs.take i) n) ((Pop.pop 16 (y ^^^ q) : Nat) : Int) + 1)) := ⟨rfl⟩
                 generalize y ^^^ q = o at *
                 have hco := fun W => count_calls o ho16 W
                 clear hon hCj
                 generalize Pop.pop 16 o = a at *
                 obtain ⟨hb1, hb2⟩ := hbd a
                 have HRR := HR.out
                 rw [← hli] at HRR
                 obtain ⟨hcell, hfro⟩ := Kd.R_cell (0 : Int) HRR (a : Int) (by omega) (by rw [hli]; omega)
                 rw [Int.toNat_natCast] at hcell hfro
                 have hput := (Kd.R_put HRR (a : Int) (rd (tally y (qs.take i) n) (a : Int) + 1)).1
                 rw [Int.toNat_natCast, hli, ← HST.out, ← HN.out] at hput
                 have HPUT := Aside0.mk hput
                 change wr.cell? ⟨g, a, none⟩ = some (.int .i64 (rd (tally y (qs.take i) n) (a : Int))) at hcell
                 clear HRR hput hbd hli
                 generalize rd (tally y (qs.take i) n) (a : Int) = v at *
                 have hwv : IntKind.i64.wrap (v + 1) = v + 1 := by rw [IntKind.wrap_i64]; omega
                 go_wp2_with (go_at_call 45; refine (hco _).mono ?_; rintro e w' ⟨rfl, ⟨q1, rfl⟩⟩)
                 go_roundw
                 case rel => exact ⟨i + 1, by omega, by go_num, ⟨Kd.R_drewN HPUT.out _⟩, ⟨Kd.R_drewN (Kd.R_far (p := ⟨g, a, none⟩) HP.out (fun k hk => hk) _) _⟩, ⟨pw_below_drewN (HB.out.setCell (p := ⟨g, a, none⟩) HGS.out _) _⟩⟩
                 case measure => simp [intOf]; omega
               · obtain rfl : i = nq := by omega
                 rw [HTA.out] at HR
                 have HRE := Aside0.mk HR.out
                 go_wp2
                 go_ret2
                 exact ⟨_, by rw [HEQ.out]; rfl, by rw [HEQ.out]; exact HRE.out, HB.out⟩
           · have hbt : ((l' : Int) == 0) = false := by rw [beq_eq_false_iff_ne]; omega
             have HEQ : Aside0 (szF (zs m) own (x : Int) = (List.replicate (n + 1) 0, true)) := ⟨by
               unfold szF szR
               rw [HOK.out, if_pos rfl, Bool.eq_false_iff.2 (fun h => h0 (HE3.out.2 h)), efs_zs, ← HK.out.inv.quiet_eq, if_pos h8, if_neg (by decide), zs_length, HLN.out]⟩
             clear h0 HA HC3 HE3
             rw [hbt]
             go_wp2
             go_ret2
             exact ⟨_, by rw [HEQ.out]; rfl, by rw [HEQ.out]; exact HR3.out, HB3.out⟩
         · have h8b : decide ((8 : Int) < (Q.length : Int)) = true := decide_eq_true (by omega)
           have HEQ : Aside0 (szF (zs m) own (x : Int) = ([], false)) := ⟨by
             unfold szF szR
             rw [HOK.out, if_pos rfl, efs_zs, ← HK.out.inv.quiet_eq, if_neg h8]⟩
           go_wp2
           go_ret2
           exact ⟨_, by rw [HEQ.out]; rfl, by rw [HEQ.out]; exact Kd.R_nil _ _ _ _ _, HB2.out⟩)
      | (have hws : w.heap.size ≤ w2.heap.size := Nat.le_trans (Nat.le_of_lt hw1) hB12.size
         have hRf := made_R w2 w.heap.size hws (n + 1) (by omega)
         have hsv0 := hsv.below (below_alloc (Below.refl w2.heap.size w2) (.cells (madeCells #[.int .i64 0] (n + 1)) 3))
         have HBf : Below w.heap.size w (w2.alloc (.cells (madeCells #[.int .i64 0] (n + 1)) 3)) := below_alloc (below_step HB1.out hB12) _
         have hgf : w2.heap.size < (w2.alloc (.cells (madeCells #[.int .i64 0] (n + 1)) 3)).heap.size := (by simp)
         have hsvf : Sv (w2.alloc (.cells (madeCells #[.int .i64 0] (n + 1)) 3)) w.heap.size S pv qv iv P Q I := ⟨hsv0.blk, Kd.R_lower hsv0.p (Nat.le_of_lt hw1), Kd.R_lower hsv0.q (Nat.le_of_lt hw1), Kd.R_lower hsv0.i (Nat.le_of_lt hw1)⟩
         clear hso hmk hwr hsv hsv0 hb2 hB12 hcell0 hcell1 hcell2 hcell3 hd1 hd2 hd3 hw1 HBW HB1 hws
         generalize w2.alloc (.cells (madeCells #[.int .i64 0] (n + 1)) 3) = Wf at *
         generalize w2.heap.size = g at *
         have HB2 := Aside0.mk HBf
         have HK := Aside0.mk hk
         have HVf := Aside0.mk hsvf
         have HRf := Aside0.mk hRf
         have HGf := Aside0.mk hgf
         have HQS := Aside0.mk (show ∃ A c, qv = .slice A Q.length c from by have := Kd.R_slice hsvf.q; rwa [zs_length] at this)
         have hc1 := hsvf.c1
         clear hk hsvf hRf HBf hgf
         obtain ⟨Aq, cq, rfl⟩ := HQS.out
         by_cases h8 : Q.length ≤ 8
         · have h8b : decide ((8 : Int) < (Q.length : Int)) = false := decide_eq_false (by omega)
           have H8 := Aside0.mk h8
           have hsl := HSV.out _ _ _ _ _ _ _ _ HK.out Wf HVf.out
           go_wp2_with fail
           refine hsl.mono ?_
           rintro e w3 ⟨l', p', rfl, hre, hb3⟩
           have HB3 := Aside0.mk (below_then HB2.out HB2.out.size hb3)
           have HA := Aside0.mk (answer (m := m) (own := own) HK.out hre)
           have HPR := Aside0.mk (fun (h : l' = 0) => HK.out.inv.presses (lights := x) (p := p') (by rw [h] at hre; exact hre))
           have HV3 := Aside0.mk (HVf.out.below hb3)
           have HR3 := Aside0.mk (Kd.R_below HRf.out hb3)
           have HG3 := Aside0.mk (show g < w3.heap.size from Nat.lt_of_lt_of_le HGf.out hb3.size)
           clear hsl hre hb3
           have HC3 := Aside0.mk (HA.out.2.1)
           have HE3 := Aside0.mk (HA.out.2.2)
           by_cases h0 : l' = 0
           · have hbt : ((l' : Int) == 0) = true := by rw [h0]; rfl
             have HEQ : Aside0 (szF (zs m) own (x : Int) = (tally (red Q p') (sums Q) n, true)) := ⟨by
               unfold szF szR
               rw [HOK.out, if_pos rfl, HE3.out.1 h0, ← HC3.out h0, efs_zs, ← HK.out.inv.quiet_eq, if_pos h8, if_pos rfl, zs_length, HLN.out]⟩
             have hQn : ∀ b ∈ Q, b < 2 ^ n := fun b hb => by have := (HK.out.inv.qt b hb).1; rwa [HL.out] at this
             have hyn : red Q p' < 2 ^ n := red_lt hQn (by have := (HPR.out h0).1; rwa [HL.out] at this)
             have hsn : ∀ q ∈ sums Q, q < 2 ^ n := fun q hq => Sp.lt hQn (sums_sp Q q hq)
             have HS16 := Aside0.mk (fun i (hi : i < (sums Q).length) => (show red Q p' ^^^ (sums Q).getD i 0 < 2 ^ n by rw [gD_lt _ _ hi]; exact Nat.xor_lt_two_pow hyn (hsn _ (List.getElem_mem hi))))
             have H16 : Aside0 (∀ {z}, z < 2 ^ n → z < 2 ^ 16) := ⟨fun h => Nat.lt_of_lt_of_le h (Nat.pow_le_pow_right (by decide) h16)⟩
             have hy62 : red Q p' < 2 ^ 16 := H16.out hyn
             have HQB := Aside0.mk (fun i (hi : i < (sums Q).length) => (show (sums Q).getD i 0 < 2 ^ 16 by rw [gD_lt _ _ hi]; exact H16.out (hsn _ (List.getElem_mem hi))))
             have HSN := Aside0.mk (fun i (hi : i < (sums Q).length) => (show tally (red Q p') ((sums Q).take (i + 1)) n = tstep (red Q p') (tally (red Q p') ((sums Q).take i) n) ((sums Q).getD i 0) by rw [List.take_succ_eq_append_getElem hi, tally_snoc, gD_lt _ _ hi]))
             have HTB := Aside0.mk (tally_bound (red Q p') (sums Q) n)
             have HTL : Aside0 (∀ i, (tally (red Q p') ((sums Q).take i) n).length = n + 1) := ⟨fun i => tally_len _ _ _⟩
             have HTA : Aside0 ((sums Q).take (sums Q).length = sums Q) := ⟨List.take_length⟩
             have hsl : (sums Q).length ≤ 65536 := by
               rw [sums_len]
               exact Nat.le_trans (Nat.pow_le_pow_right (by decide) (Nat.le_trans h8 (by decide))) (Nat.le_refl (2 ^ 16))
             have HT0 : Aside0 (List.replicate (n + 1) (0 : Int) = tally (red Q p') ((sums Q).take 0) n) := ⟨by rw [List.take_zero]; rfl⟩
             rw [HT0.out] at HR3
             have hpt := HPT.out _ _ _ _ _ _ _ _ HK.out w3 HV3.out
             have hc1 := HV3.out.c1
             clear h0 HA HC3 HE3 HVf HV3 HSV HSO HPT HPR hQn hsn hyn HRf HT0 h8 h8b
             rw [hbt]
             clear hbt
             generalize red Q p' = y at *
             go_wp2_with fail
             refine hpt.mono ?_
             rintro e w4 ⟨v4, rfl, hR, hb4⟩
             have HB4 := Aside0.mk (below_then HB3.out HB3.out.size hb4)
             have HRg := Aside0.mk (Kd.R_mono (ok' := fun k => k ≠ g) (Kd.R_bound hR) (fun k hk => by have h1 := hk.2.1; have h2 := HG3.out; omega))
             have HR4 := Aside0.mk (Kd.R_below HR3.out hb4)
             have HGS := Aside0.mk (show w.heap.size ≤ g from Kd.R_base HR3.out g rfl)
             obtain ⟨A4, c4, hv4, hc4, hC4⟩ := Kd.R_reads hR
             subst hv4
             rw [zs_length] at *
             have HZ : Aside0 ((zs (sums Q)).length = (sums Q).length) := ⟨zs_length _⟩
             clear hR hb4 hpt hC4 hc1 HR3
             generalize sums Q = qs at *
             generalize qs.length = nq at *
             generalize w3.heap.size = n3 at *
             go_wp2
             go_loopw [43] (fun s wr => ∃ i : Nat, i ≤ nq ∧ s = .int .i64 i ∧ Aside0 (ki.R 3 wr w.heap.size (fun _ => True) (.slice (some ⟨g, 0, none⟩) (n + 1) (n + 1)) (tally y (qs.take i) n)) ∧ Aside0 (ki.R 3 wr n3 (fun k => k ≠ g) (.slice A4 nq c4) (zs qs)) ∧ Aside0 (Below w.heap.size w wr)) (fun s _ => nq - (intOf s).toNat)
             case atStart => exact ⟨0, Nat.zero_le _, rfl, HR4, HRg, HB4⟩
             case round =>
               clear HR4 HRg HB4
               obtain ⟨i, hi, rfl, HR, HP, HB⟩ := hrel
               by_cases hlt : i < nq
               · have hCj := (Kd.R_reads' HP.out).2.2
                 rw [HZ.out] at hCj
                 obtain ⟨ad, e1, hci⟩ := Kd.at_int hCj (i : Int) (by omega) (by omega)
                 subst e1
                 rw [Int.toNat_natCast, rd_zs] at hci
                 have hon := HS16.out i hlt
                 have hq16 := HQB.out i hlt
                 have HN := Aside0.mk (HSN.out i hlt)
                 have hli := HTL.out i
                 have hbd := HTB.out i hi
                 generalize qs.getD i 0 = q at *
                 have hxor := xorn y q (by omega) (by omega)
                 have ho16 := H16.out hon
                 have hpn := pop_lt 16 n (y ^^^ q) hon
                 have HST : Aside0 (tstep y (tally y (qs.take i) n) q = (tally y (qs.take i) n).set (Pop.pop 16 (y ^^^ q)) (rd (tally y (qs.take i) n) ((Pop.pop 16 (y ^^^ q) : Nat) : Int) + 1)) := ⟨rfl⟩
                 generalize y ^^^ q = o at *
                 have hco := fun W => count_calls o ho16 W
                 clear hon hCj
                 generalize Pop.pop 16 o = a at *
                 obtain ⟨hb1, hb2⟩ := hbd a
                 have HRR := HR.out
                 rw [← hli] at HRR
                 obtain ⟨hcell, hfro⟩ := Kd.R_cell (0 : Int) HRR (a : Int) (by omega) (by rw [hli]; omega)
                 rw [Int.toNat_natCast] at hcell hfro
                 have hput := (Kd.R_put HRR (a : Int) (rd (tally y (qs.take i) n) (a : Int) + 1)).1
                 rw [Int.toNat_natCast, hli, ← HST.out, ← HN.out] at hput
                 have HPUT := Aside0.mk hput
                 change wr.cell? ⟨g, a, none⟩ = some (.int .i64 (rd (tally y (qs.take i) n) (a : Int))) at hcell
                 clear HRR hput hbd hli
                 generalize rd (tally y (qs.take i) n) (a : Int) = v at *
                 have hwv : IntKind.i64.wrap (v + 1) = v + 1 := by rw [IntKind.wrap_i64]; omega
                 go_wp2_with (go_at_call 45; refine (hco _).mono ?_; rintro e w' ⟨rfl, ⟨q1, rfl⟩⟩)
                 go_roundw
                 case rel => exact ⟨i + 1, by omega, by go_num, ⟨Kd.R_drewN HPUT.out _⟩, ⟨Kd.R_drewN (Kd.R_far (p := ⟨g, a, none⟩) HP.out (fun k hk => hk) _) _⟩, ⟨pw_below_drewN (HB.out.setCell (p := ⟨g, a, none⟩) HGS.out _) _⟩⟩
                 case measure => simp [intOf]; omega
               · obtain rfl : i = nq := by omega
                 rw [HTA.out] at HR
                 have HRE := Aside0.mk HR.out
                 go_wp2
                 go_ret2
                 exact ⟨_, by rw [HEQ.out]; rfl, by rw [HEQ.out]; exact HRE.out, HB.out⟩
           · have hbt : ((l' : Int) == 0) = false := by rw [beq_eq_false_iff_ne]; omega
             have HEQ : Aside0 (szF (zs m) own (x : Int) = (List.replicate (n + 1) 0, true)) := ⟨by
               unfold szF szR
               rw [HOK.out, if_pos rfl, Bool.eq_false_iff.2 (fun h => h0 (HE3.out.2 h)), efs_zs, ← HK.out.inv.quiet_eq, if_pos h8, if_neg (by decide), zs_length, HLN.out]⟩
             clear h0 HA HC3 HE3
             rw [hbt]
             go_wp2
             go_ret2
             exact ⟨_, by rw [HEQ.out]; rfl, by rw [HEQ.out]; exact HR3.out, HB3.out⟩
         · have h8b : decide ((8 : Int) < (Q.length : Int)) = true := decide_eq_true (by omega)
           have HEQ : Aside0 (szF (zs m) own (x : Int) = ([], false)) := ⟨by
             unfold szF szR
             rw [HOK.out, if_pos rfl, efs_zs, ← HK.out.inv.quiet_eq, if_neg h8]⟩
           go_wp2
           go_ret2
           exact ⟨_, by rw [HEQ.out]; rfl, by rw [HEQ.out]; exact Kd.R_nil _ _ _ _ _, HB2.out⟩)
end Go.Proofs.Ythjbccbaobkobaa.Esz
