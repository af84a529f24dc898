/- What the program's WitnessOf computes: the program's walk. -/
import Derived.Test.YtfjkahkinkaheaaExq
import Derived.Test.YtfjkahkinkaheaaPBas2x
namespace Go.Proofs.Ytfjkahkinkaheaa.Exw
open Go.RowKit Go.Proofs.Ytfjkahkinkaheaa.PBase Go.Proofs.YtfjkahkinkaheaaW.PrintWords Go.Proofs.YtfjkahkinkaheaaW.PrintLast Go.Proofs.YtfjkahkinkaheaaW.PrintMore
open Go.Proofs.Ytfjkahkinkaheaa.Lin Go.Proofs.Ytfjkahkinkaheaa.Bit Go.Proofs.Ytfjkahkinkaheaa.Gra Go.Proofs.Ytfjkahkinkaheaa.Red Go.Proofs.Ytfjkahkinkaheaa.Ker Go.Proofs.Ytfjkahkinkaheaa.Ext Go.Proofs.Ytfjkahkinkaheaa.Rea Go.Proofs.Ytfjkahkinkaheaa.Sol Go.Proofs.Ytfjkahkinkaheaa.Sog Go.Proofs.Ytfjkahkinkaheaa.Exp Go.Proofs.Ytfjkahkinkaheaa.Exq

/-- Two sets meet oddly. -/
def oddN (a b : Nat) : Bool := Pop.pop 16 (a &&& b) % 2 == 1
def fnd (r : Option Nat) : Int × Bool := match r with
  | some b => ((b : Int), true)
  | none => (0, false)
def witF (l : List Int) (own : Bool) (x : Int) : Int × Bool := if okS l x then fnd ((refQ (efs l own)).find? fun b => oddN b x.toNat) else (0, false)
theorem odd_calls (a b : Nat) (w : World) (ha : a < 2 ^ 16) (hb : b < 2 ^ 16) : Calls Try.prog 67 #[.int .i64 (a : Int), .int .i64 (b : Int)] w fun e w' => e = .returned (.bool (oddN a b)) ∧ Drawn0 w w' := by
  refine PBas2.impl_odd.calls _ _ _ w ?_
  unfold PBas2.impl_odd.f
  rw [andn _ _ (Nat.lt_trans ha (by decide)) (Nat.lt_trans hb (by decide))]
  have h1 : a &&& b < 2 ^ 16 := Nat.and_lt_two_pow _ hb
  unfold PBas2.impl_count.f oddN
  rw [if_pos (Int.natCast_nonneg _), if_pos (by omega), Int.toNat_natCast]
  generalize Pop.pop 16 (a &&& b) = p
  show some (Int.tmod (p : Int) 2 == 1) = some (p % 2 == 1)
  congr 1
  rw [show Int.tmod (p : Int) 2 = ((p % 2 : Nat) : Int) from rfl, Bool.eq_iff_iff, beq_iff_eq, beq_iff_eq]
  omega

set_option maxRecDepth 100000 in
set_option maxHeartbeats 4000000 in
theorem wit_calls (A : Option Addr) (c : Nat) (l : List Int) (own : Bool) (x : Int) (w : World) (hC : ki.C w A l.length l) (hc : l.length ≤ c) :
    Calls Try.prog 45 #[.agg #[.slice A l.length c, .bool own], .int .i64 x] w fun e w' => e = .returned (.tuple #[.int .i64 (witF l own x).1, .bool (witF l own x).2]) ∧ Below w.heap.size w w' := by
  have hu := Try.underlying35
  have hgw := impl_isSet.calls A c l own (some ⟨w.heap.size + 1, 0, none⟩) 1 [x] _ ((w.alloc (.cells #[.slice A l.length c, .bool own] 35)).alloc (.cells #[.int .i64 x] 3)) (Kd.C_alloc (Kd.C_alloc hC _) _) hc (eq_one (by simp)) (by simp) rfl
  rw [okS_set] at hgw
  cases hG : okS l x with
  | false =>
    have HW : Aside0 (witF l own x = (0, false)) := ⟨by unfold witF; rw [hG]; rfl⟩
    rw [hG] at hgw
    clear hC hG
    generalize l.length = n at *
    go_enter Try.func45, Try.ntmps45
    go_wp2_with fail
    refine hgw.mono ?_
    rintro e w' ⟨rfl, hb⟩
    go_wp2
    go_ret2
    exact ⟨by rw [HW.out]; rfl, below_then (below_alloc (below_alloc (Below.refl _ _) _) _) (by simp; omega) hb⟩
  | true =>
    have HOK := Aside0.mk hG
    rw [hG] at hgw
    unfold okS at hG
    rw [Bool.and_eq_true, decide_eq_true_eq] at hG
    obtain ⟨hG, hx0, hx1⟩ := hG
    obtain ⟨x, rfl⟩ := Int.eq_ofNat_of_zero_le hx0
    obtain ⟨m, rfl, hgood⟩ := good_zs hG
    have HSO := Aside0.mk (fun W (h : Below w.heap.size w W) => solverOf_calls A c m own hgood (by rw [← zs_length m]; exact hc) W (by have := Kd.C_below hC h; rwa [zs_length] at this))
    have h16 := hgood.le
    have hx62 : x < 2 ^ 62 := by
      have h1 : x ≤ 2 ^ (zs m).length - 1 := by exact_mod_cast hx1
      have h2 := pow16 hgood
      rw [zs_length] at h1
      have h3 := Nat.two_pow_pos m.length
      exact Nat.lt_of_lt_of_le (show x < 2 ^ m.length by omega) (Nat.le_trans h2 (by decide))
    have hx16 : x < 2 ^ 16 := by
      have h1 : x ≤ 2 ^ (zs m).length - 1 := by exact_mod_cast hx1
      have h2 := pow16 hgood
      rw [zs_length] at h1
      have h3 := Nat.two_pow_pos m.length
      exact Nat.lt_of_lt_of_le (show x < 2 ^ m.length by omega) h2
    have HL : Aside0 ((tgls m own).length = m.length) := ⟨tgls_length m own⟩
    have HSV := Aside0.mk (fun (n0 S : Nat) pv qv iv P Q I (hk : Know (tgls m own) P Q I) w (hs : Sv w n0 S pv qv iv P Q I) => solve_calls (tgls_lt16 hgood own) (by rw [tgls_length]; exact h16) hk x hx62 w hs)
    rw [zs_length] at *
    clear hC hG hgood hx0 hx1 hx62
    generalize m.length = n at *
    go_enter Try.func45, Try.ntmps45
    go_wp2_with fail
    refine hgw.mono ?_
    rintro e w1 ⟨rfl, hb⟩
    have hcell0 : w1.cell? ⟨w.heap.size, 0, none⟩ = some (.slice A n c) := (hb.cell (p := ⟨w.heap.size, 0, none⟩) (by simp; omega)).trans (by simp)
    have hcell1 : w1.cell? ⟨w.heap.size, 1, none⟩ = some (.bool own) := (hb.cell (p := ⟨w.heap.size, 1, none⟩) (by simp; omega)).trans (by simp)
    have hB1 : Below w.heap.size w w1 := below_then (below_alloc (below_alloc (Below.refl _ _) _) _) (by simp; omega) hb
    have hso := HSO.out w1 hB1
    have HB1 := Aside0.mk hB1
    clear hgw hb hB1
    go_wp2_with fail
    refine hso.mono ?_
    rintro e w2 ⟨S, pv, qv, iv, P, Q, I, rfl, hsv, hk, hb2⟩
    have HB2 := Aside0.mk (below_then HB1.out HB1.out.size hb2)
    have HK := Aside0.mk hk
    have HV := Aside0.mk hsv
    clear hso hsv hk hb2 hcell0 hcell1
    obtain ⟨Aq, cq, rfl, hcq, hqC⟩ := Kd.R_reads HV.out.q
    rw [zs_length] at hcq hqC
    have hc1 := HV.out.c1
    rw [zs_length] at hc1
    have HQC := Aside0.mk hqC
    have HEQ := Aside0.mk (show witF (zs m) own (x : Int) = fnd (Q.find? fun b => oddN b x) from by
      unfold witF
      rw [if_pos HOK.out, efs_zs, ← HK.out.inv.quiet_eq, Int.toNat_natCast])
    have HQ16 := Aside0.mk (fun (i : Nat) (hi : i < Q.length) => (show Q.getD i 0 < 2 ^ 16 by
      rw [gD_lt _ _ hi]
      have h1 := (HK.out.inv.qt _ (List.getElem_mem hi)).1
      rw [HL.out] at h1
      exact Nat.lt_of_lt_of_le h1 (Nat.pow_le_pow_right (by decide) h16)))
    have HF : Aside0 (∀ i, i < Q.length → (∀ j, j < i → oddN (Q.getD j 0) x = false) → oddN (Q.getD i 0) x = true → Q.find? (fun b => oddN b x) = some (Q.getD i 0)) := ⟨fun i hi h1 h2 => by
      rw [List.find?_eq_some_iff_getElem]
      refine ⟨h2, i, hi, (gD_lt _ _ hi).symm, fun j hj => ?_⟩
      have := h1 j hj
      rw [gD_lt _ _ (by omega)] at this
      simp [this]⟩
    have HN : Aside0 ((∀ j, j < Q.length → oddN (Q.getD j 0) x = false) → Q.find? (fun b => oddN b x) = none) := ⟨fun h => by
      rw [List.find?_eq_none]
      intro b hb
      obtain ⟨j, hj, rfl⟩ := List.getElem_of_mem hb
      have := h j hj
      rw [gD_lt _ _ hj] at this
      simp [this]⟩
    have hql : Q.length ≤ 16 := by have := HK.out.ql; have := HL.out; omega
    clear hqC hcq HV HSV HSO
    generalize Q.length = nq at *
    go_wp2
    go_loopw [19] (fun s wr => ∃ i : Nat, i ≤ nq ∧ s = .int .i64 i ∧ Aside0 (∀ j, j < i → oddN (Q.getD j 0) x = false) ∧ Aside0 (Below w2.heap.size w2 wr)) (fun s _ => nq - (intOf s).toNat)
    case atStart => exact ⟨0, Nat.zero_le _, rfl, ⟨fun j h => absurd h (Nat.not_lt_zero _)⟩, ⟨Below.refl _ _⟩⟩
    case round =>
      obtain ⟨i, hi, rfl, HJ, HB⟩ := hrel
      by_cases hlt : i < nq
      · obtain ⟨ad, e1, hci⟩ := Kd.at_int (Kd.C_below HQC.out HB.out) (i : Int) (by omega) (by omega)
        subst e1
        rw [Int.toNat_natCast, rd_zs] at hci
        have hodd := fun W => odd_calls (Q.getD i 0) x W (HQ16.out i hlt) hx16
        have HFi := Aside0.mk (HF.out i hlt HJ.out)
        cases hb : oddN (Q.getD i 0) x with
        | true =>
          rw [hb] at hodd
          have HT := Aside0.mk (HEQ.out.trans (congrArg fnd (HFi.out hb)))
          clear hb
          generalize Q.getD i 0 = b at *
          go_wp2_with (go_at_call 67; refine (hodd _).mono ?_; rintro e w' ⟨rfl, ⟨q, rfl⟩⟩)
          go_ret2
          exact ⟨by rw [HT.out]; rfl, pw_below_drewN (below_then HB2.out HB2.out.size HB.out) _⟩
        | false =>
          rw [hb] at hodd
          have HF1 := Aside0.mk hb
          clear hb
          generalize hbb : Q.getD i 0 = b at *
          have HBB := Aside0.mk hbb
          clear hbb
          go_wp2_with (go_at_call 67; refine (hodd _).mono ?_; rintro e w' ⟨rfl, ⟨q, rfl⟩⟩)
          go_roundw
          case rel => exact ⟨i + 1, by omega, by go_num, ⟨fun j hj => by
            by_cases e : j = i
            · subst e; rw [HBB.out]; exact HF1.out
            · exact HJ.out j (by omega)⟩, ⟨pw_below_drewN HB.out _⟩⟩
          case measure => simp [intOf]; omega
      · obtain rfl : i = nq := by omega
        have HT := Aside0.mk (HEQ.out.trans (congrArg fnd (HN.out HJ.out)))
        go_wp2
        go_ret2
        exact ⟨by rw [HT.out]; rfl, below_then HB2.out HB2.out.size HB.out⟩
end Go.Proofs.Ytfjkahkinkaheaa.Exw
