/- What LeastSolution computes: the program's walk, once. -/
import Derived.Test.YthjbccbaobkobaaEqp
namespace Go.Proofs.Ythjbccbaobkobaa.Els
open Go.RowKit Go.Proofs.Ythjbccbaobkobaa.PBase Go.Proofs.YthjbccbaobkobaaW.PrintWords Go.Proofs.YthjbccbaobkobaaW.PrintLast Go.Proofs.YthjbccbaobkobaaW.PrintMore
open Go.Proofs.Ythjbccbaobkobaa.Lin Go.Proofs.Ythjbccbaobkobaa.Bit Go.Proofs.Ythjbccbaobkobaa.Gra Go.Proofs.Ythjbccbaobkobaa.Red Go.Proofs.Ythjbccbaobkobaa.Ker Go.Proofs.Ythjbccbaobkobaa.Ext Go.Proofs.Ythjbccbaobkobaa.Rea Go.Proofs.Ythjbccbaobkobaa.Sol Go.Proofs.Ythjbccbaobkobaa.Sog Go.Proofs.Ythjbccbaobkobaa.Exd Go.Proofs.Ythjbccbaobkobaa.Pat Go.Proofs.Ythjbccbaobkobaa.Ptw Go.Proofs.Ythjbccbaobkobaa.Eqp

def tel (b : Bool) (y : Nat) (c : Bool) : Int × Bool := if b then ((y : Int), true) else (0, c)
/-- Fewer presses, or as many and a lesser set. -/
def better (own best : Nat) : Bool := decide (Pop.pop 16 own < Pop.pop 16 best) || (decide (Pop.pop 16 own = Pop.pop 16 best) && decide (own < best))
def lstep (one best q : Nat) : Nat := if better (one ^^^ q) best then one ^^^ q else best
def leastOf (one : Nat) (qs : List Nat) : Nat := qs.foldl (lstep one) one
theorem least_snoc (one : Nat) (qs : List Nat) (q : Nat) : leastOf one (qs ++ [q]) = lstep one (leastOf one qs) q := by simp [leastOf]
theorem least_lt {one n : Nat} (h1 : one < 2 ^ n) {qs : List Nat} (h : ∀ q ∈ qs, q < 2 ^ n) : leastOf one qs < 2 ^ n := by
  have hk : ∀ k, k ≤ qs.length → leastOf one (qs.take k) < 2 ^ n := by
    intro k
    induction k with
    | zero => intro _; rw [List.take_zero]; exact h1
    | succ k ih =>
      intro hk
      rw [List.take_succ_eq_append_getElem (by omega), least_snoc, lstep]
      split
      · exact Nat.xor_lt_two_pow h1 (h _ (List.getElem_mem (by omega)))
      · exact ih (by omega)
  have := hk qs.length (Nat.le_refl _)
  rwa [List.take_length] at this
def lsF (l : List Int) (own : Bool) (x : Int) : Int × Bool := if okS l x then tel (slvd l own x) (leastOf (red (refQ (efs l own)) (lef l own x)) (sums (refQ (efs l own)))) false else (0, false)
theorem count_calls (x : Nat) (hx : x < 2 ^ 16) (w : World) : Calls Try.prog 45 #[.int .i64 (x : Int)] w fun e w' => e = .returned (.int .i64 ((Pop.pop 16 x : Nat) : Int)) ∧ Drawn0 w w' := by
  refine impl_count.calls (x : Int) _ w ?_
  unfold impl_count.f
  rw [if_pos (Int.natCast_nonneg _), if_pos (by omega), Int.toNat_natCast]

set_option maxRecDepth 100000 in
set_option maxHeartbeats 4000000 in
theorem ls_calls (A : Option Addr) (c : Nat) (l : List Int) (own : Bool) (x : Int) (w : World) (hC : ki.C w A l.length l) (hc : l.length ≤ c) :
    Calls Try.prog 13 #[.agg #[.slice A l.length c, .bool own], .int .i64 x] w fun e w' => e = .returned (.tuple #[.int .i64 (lsF l own x).1, .bool (lsF l own x).2]) ∧ Below w.heap.size w w' := by
  have hu := Try.underlying28
  have hgw := impl_isSet.calls A c l own (some ⟨w.heap.size + 1, 0, none⟩) 1 [x] _ ((w.alloc (.cells #[.slice A l.length c, .bool own] 28)).alloc (.cells #[.int .i64 x] 3)) (Kd.C_alloc (Kd.C_alloc hC _) _) hc (eq_one (by simp)) (by simp) rfl
  rw [okS_set] at hgw
  cases hG : okS l x with
  | false =>
    have HW : Aside0 (lsF l own x = (0, false)) := ⟨by unfold lsF; rw [hG]; rfl⟩
    rw [hG] at hgw
    clear hC hG
    generalize l.length = n at *
    go_enter Try.func13, Try.ntmps13
    go_wp2_with fail
    refine hgw.mono ?_
    rintro e w' ⟨rfl, hb⟩
    go_wp2
    go_ret2
    exact ⟨by rw [HW.out]; rfl, below_then (below_alloc (below_alloc (Below.refl _ _) _) _) (by simp; omega) hb⟩
  | true =>
    have HOK := Aside0.mk hG
    rw [hG] at hgw
    unfold okS at hG
    rw [Bool.and_eq_true, decide_eq_true_eq] at hG
    obtain ⟨hG, hx0, hx1⟩ := hG
    obtain ⟨x, rfl⟩ := Int.eq_ofNat_of_zero_le hx0
    obtain ⟨m, rfl, hgood⟩ := good_zs hG
    have HSO := Aside0.mk (fun W (h : Below w.heap.size w W) => solverOf_calls A c m own hgood (by rw [← zs_length m]; exact hc) W (by have := Kd.C_below hC h; rwa [zs_length] at this))
    have h16 := hgood.le
    have hx62 : x < 2 ^ 62 := by
      have h1 : x ≤ 2 ^ (zs m).length - 1 := by exact_mod_cast hx1
      have h2 := pow16 hgood
      rw [zs_length] at h1
      have h3 := Nat.two_pow_pos m.length
      exact Nat.lt_of_lt_of_le (show x < 2 ^ m.length by omega) (Nat.le_trans h2 (by decide))
    have HL : Aside0 ((tgls m own).length = m.length) := ⟨tgls_length m own⟩
    have HPT := Aside0.mk (fun n0 S pv qv iv P Q I (hk : Know (tgls m own) P Q I) w (hs : Sv w n0 S pv qv iv P Q I) => patterns_sv (tgls_lt16 hgood own) (by rw [tgls_length]; exact h16) hk w hs)
    have HSV := Aside0.mk (fun (n0 S : Nat) pv qv iv P Q I (hk : Know (tgls m own) P Q I) w (hs : Sv w n0 S pv qv iv P Q I) => solve_calls (tgls_lt16 hgood own) (by rw [tgls_length]; exact h16) hk x hx62 w hs)
    rw [zs_length] at *
    clear hC hG hgood hx0 hx1 hx62
    generalize m.length = n at *
    go_enter Try.func13, Try.ntmps13
    go_wp2_with fail
    refine hgw.mono ?_
    rintro e w1 ⟨rfl, hb⟩
    have hcell0 : w1.cell? ⟨w.heap.size, 0, none⟩ = some (.slice A n c) := (hb.cell (p := ⟨w.heap.size, 0, none⟩) (by simp; omega)).trans (by simp)
    have hcell1 : w1.cell? ⟨w.heap.size, 1, none⟩ = some (.bool own) := (hb.cell (p := ⟨w.heap.size, 1, none⟩) (by simp; omega)).trans (by simp)
    have hB1 : Below w.heap.size w w1 := below_then (below_alloc (below_alloc (Below.refl _ _) _) _) (by simp; omega) hb
    have hso := HSO.out w1 hB1
    have HB1 := Aside0.mk hB1
    clear hgw hb hB1
    go_wp2_with fail
    refine hso.mono ?_
    rintro e w2 ⟨S, pv, qv, iv, P, Q, I, rfl, hsv, hk, hb2⟩
    have HB2 := Aside0.mk (below_then HB1.out HB1.out.size hb2)
    have HK := Aside0.mk hk
    have HV := Aside0.mk hsv
    clear hso hsv hk hb2 hcell0 hcell1
    have hsl := HSV.out _ _ _ _ _ _ _ _ HK.out w2 HV.out
    go_wp2_with fail
    refine hsl.mono ?_
    rintro e w3 ⟨l', p', rfl, hre, hb3⟩
    have HB3 := Aside0.mk (below_then HB2.out HB2.out.size hb3)
    have HA := Aside0.mk (answer (m := m) (own := own) HK.out hre)
    have HPR := Aside0.mk (fun (h : l' = 0) => HK.out.inv.presses (lights := x) (p := p') (by rw [h] at hre; exact hre))
    have HV3 := Aside0.mk (HV.out.below hb3)
    clear hsl hre hb3
    have HC3 := Aside0.mk (HA.out.2.1)
    have HE3 := Aside0.mk (HA.out.2.2)
    by_cases h0 : l' = 0
    · have hbt : ((l' : Int) == 0) = true := by rw [h0]; rfl
      have HEQ : Aside0 (lsF (zs m) own (x : Int) = (((leastOf (red Q p') (sums Q) : Nat) : Int), true)) := ⟨by
        unfold lsF
        rw [HOK.out, if_pos rfl, HE3.out.1 h0, ← HC3.out h0, efs_zs, ← HK.out.inv.quiet_eq]; rfl⟩
      have hp16 : ∀ {y}, y < 2 ^ (tgls m own).length → y < 2 ^ 16 := fun h => Nat.lt_of_lt_of_le h (Nat.pow_le_pow_right (by decide) (by rw [HL.out]; exact h16))
      have hQ16 : ∀ b ∈ Q, b < 2 ^ 16 := fun b hb => hp16 (HK.out.inv.qt b hb).1
      have hy16 : red Q p' < 2 ^ 16 := red_lt hQ16 (hp16 (HPR.out h0).1)
      have hs16 : ∀ q ∈ sums Q, q < 2 ^ 16 := fun q hq => Sp.lt hQ16 (sums_sp Q q hq)
      have HS16 := Aside0.mk (fun i (hi : i < (sums Q).length) => (show (sums Q).getD i 0 < 2 ^ 16 by rw [gD_lt _ _ hi]; exact hs16 _ (List.getElem_mem hi)))
      have HSN := Aside0.mk (fun i (hi : i < (sums Q).length) => (show leastOf (red Q p') ((sums Q).take (i + 1)) = lstep (red Q p') (leastOf (red Q p') ((sums Q).take i)) ((sums Q).getD i 0) by rw [List.take_succ_eq_append_getElem hi, least_snoc, gD_lt _ _ hi]))
      have HTA : Aside0 ((sums Q).take (sums Q).length = sums Q) := ⟨List.take_length⟩
      have hsl : (sums Q).length ≤ 65536 := by
        rw [sums_len]
        exact Nat.le_trans (Nat.pow_le_pow_right (by decide) (Nat.le_trans HK.out.ql (by rw [HL.out]; exact h16))) (by decide)
      have hpt := HPT.out _ _ _ _ _ _ _ _ HK.out w3 HV3.out
      have hc1 := HV3.out.c1
      have HQS := Aside0.mk (show ∃ A c, qv = .slice A Q.length c from by have := Kd.R_slice HV3.out.q; rwa [zs_length] at this)
      clear h0 HA HC3 HE3 HV HV3 HSV HSO HPT HPR hp16 hQ16 hs16
      rw [hbt]
      clear hbt
      generalize red Q p' = y at *
      obtain ⟨Aq, cq, rfl⟩ := HQS.out
      go_wp2_with fail
      refine hpt.mono ?_
      rintro e w4 ⟨v4, rfl, hR, hb4⟩
      have HB4 := Aside0.mk (below_then HB3.out HB3.out.size hb4)
      obtain ⟨A4, c4, hv4, hc4, hC4⟩ := Kd.R_reads hR
      subst hv4
      rw [zs_length] at *
      have HC4 := Aside0.mk hC4
      clear hR hb4 hpt hC4 hc1
      generalize hqs : sums Q = qs at *
      clear hqs
      generalize qs.length = nq at *
      go_wp2
      go_loopw [9, 35] (fun v s wr => ∃ i bst : Nat, i ≤ nq ∧ s = .int .i64 i ∧ v = .int .i64 (bst : Int) ∧ bst < 2 ^ 16 ∧ Aside0 (bst = leastOf y (qs.take i)) ∧ Aside0 (Below w4.heap.size w4 wr)) (fun _ s _ => nq - (intOf s).toNat)
      case atStart => exact ⟨0, y, Nat.zero_le _, rfl, rfl, hy16, ⟨by rw [List.take_zero]; rfl⟩, ⟨Below.refl _ _⟩⟩
      case round =>
        obtain ⟨i, bst, hi, rfl, rfl, hbst, HJ, HB⟩ := hrel
        by_cases hlt : i < nq
        · obtain ⟨ad, e1, hci⟩ := Kd.at_int (Kd.C_below HC4.out HB.out) (i : Int) (by omega) (by omega)
          subst e1
          rw [Int.toNat_natCast, rd_zs] at hci
          have hq16 := HS16.out i hlt
          have HN := Aside0.mk (HSN.out i hlt)
          generalize qs.getD i 0 = q at *
          have hxor := xorn y q (by omega) (by omega)
          have ho16 : y ^^^ q < 2 ^ 16 := Nat.xor_lt_two_pow hy16 hq16
          have HO : Aside0 (lstep y bst q = if better (y ^^^ q) bst then y ^^^ q else bst) := ⟨rfl⟩
          rw [← HJ.out] at HN
          generalize y ^^^ q = o at *
          have hco := fun W => count_calls o ho16 W
          have hcb := fun W => count_calls bst hbst W
          have HBT : Aside0 (better o bst = (decide (Pop.pop 16 o < Pop.pop 16 bst) || (decide (Pop.pop 16 o = Pop.pop 16 bst) && decide (o < bst)))) := ⟨rfl⟩
          generalize hpo : Pop.pop 16 o = a at *
          generalize hpb : Pop.pop 16 bst = b at *
          clear hpo hpb
          have HO16 := Aside0.mk ho16
          have HB16 := Aside0.mk hbst
          by_cases c1 : a < b
          · have f1 : decide ((a : Int) < (b : Int)) = true := decide_eq_true (by omega)
            have HR : Aside0 (leastOf y (qs.take (i + 1)) = o) := ⟨by rw [HN.out, HO.out, HBT.out, decide_eq_true c1]; rfl⟩
            have g1 : decide (a < b) = true := decide_eq_true c1
            go_wp2_with (go_at_call 45; first | ((with_reducible refine (hco _).mono ?_); rintro e w' ⟨rfl, ⟨q1, rfl⟩⟩) | ((with_reducible refine (hcb _).mono ?_); rintro e w' ⟨rfl, ⟨q2, rfl⟩⟩))
            go_roundw
            case rel => exact ⟨i + 1, o, by omega, by go_num, rfl, HO16.out, ⟨HR.out.symm⟩, ⟨pw_below_drewN HB.out _⟩⟩
            case measure => simp [intOf]; omega
          · have f1 : decide ((a : Int) < (b : Int)) = false := decide_eq_false (by omega)
            by_cases c2 : a = b
            · have f2 : ((a : Int) == (b : Int)) = true := by rw [beq_iff_eq]; omega
              by_cases c3 : o < bst
              · have f3 : decide ((o : Int) < (bst : Int)) = true := decide_eq_true (by omega)
                have HR : Aside0 (leastOf y (qs.take (i + 1)) = o) := ⟨by rw [HN.out, HO.out, HBT.out, decide_eq_false c1, decide_eq_true c2, decide_eq_true c3]; rfl⟩
                subst c2
                have g1 : decide (a < a) = false := decide_eq_false c1
                have g3 := c3
                go_wp2_with (go_at_call 45; first | ((with_reducible refine (hco _).mono ?_); rintro e w' ⟨rfl, ⟨q1, rfl⟩⟩) | ((with_reducible refine (hcb _).mono ?_); rintro e w' ⟨rfl, ⟨q2, rfl⟩⟩))
                go_roundw
                case rel => exact ⟨i + 1, o, by omega, by go_num, rfl, HO16.out, ⟨HR.out.symm⟩, ⟨pw_below_drewN HB.out _⟩⟩
                case measure => simp [intOf]; omega
              · have f3 : decide ((o : Int) < (bst : Int)) = false := decide_eq_false (by omega)
                have HR : Aside0 (leastOf y (qs.take (i + 1)) = bst) := ⟨by rw [HN.out, HO.out, HBT.out, decide_eq_false c1, decide_eq_true c2, decide_eq_false c3]; rfl⟩
                subst c2
                have g1 : decide (a < a) = false := decide_eq_false c1
                have g3 := c3
                go_wp2_with (go_at_call 45; first | ((with_reducible refine (hco _).mono ?_); rintro e w' ⟨rfl, ⟨q1, rfl⟩⟩) | ((with_reducible refine (hcb _).mono ?_); rintro e w' ⟨rfl, ⟨q2, rfl⟩⟩))
                go_roundw
                case rel => exact ⟨i + 1, bst, by omega, by go_num, rfl, HB16.out, ⟨HR.out.symm⟩, ⟨pw_below_drewN HB.out _⟩⟩
                case measure => simp [intOf]; omega
            · have f2 : ((a : Int) == (b : Int)) = false := by rw [beq_eq_false_iff_ne]; omega
              have HR : Aside0 (leastOf y (qs.take (i + 1)) = bst) := ⟨by rw [HN.out, HO.out, HBT.out, decide_eq_false c1, decide_eq_false c2]; rfl⟩
              have g1 : decide (a < b) = false := decide_eq_false c1
              have g2 : decide (a = b) = false := decide_eq_false c2
              go_wp2_with (go_at_call 45; first | ((with_reducible refine (hco _).mono ?_); rintro e w' ⟨rfl, ⟨q1, rfl⟩⟩) | ((with_reducible refine (hcb _).mono ?_); rintro e w' ⟨rfl, ⟨q2, rfl⟩⟩))
              go_roundw
              case rel => exact ⟨i + 1, bst, by omega, by go_num, rfl, HB16.out, ⟨HR.out.symm⟩, ⟨pw_below_drewN HB.out _⟩⟩
              case measure => simp [intOf]; omega
        · obtain rfl : i = nq := by omega
          rw [HTA.out] at HJ
          have HR : Aside0 (lsF (zs m) own (x : Int) = ((bst : Int), true)) := ⟨HEQ.out.trans (by rw [← HJ.out])⟩
          go_wp2
          go_ret2
          exact ⟨by rw [HR.out]; rfl, below_then HB4.out HB4.out.size HB.out⟩
    · have hbt : ((l' : Int) == 0) = false := by rw [beq_eq_false_iff_ne]; omega
      have HEQ : Aside0 (lsF (zs m) own (x : Int) = (0, false)) := ⟨by
        unfold lsF
        rw [HOK.out, if_pos rfl, Bool.eq_false_iff.2 (fun h => h0 (HE3.out.2 h))]; rfl⟩
      clear h0 HA HC3 HE3
      rw [hbt]
      go_wp2
      go_ret2
      exact ⟨by rw [HEQ.out]; rfl, HB3.out⟩
end Go.Proofs.Ythjbccbaobkobaa.Els
