/- What QuietPatterns computes: the program's walk, once. -/
import Derived.Test.YthjbccbaobkobaaExd
import Derived.Test.YthjbccbaobkobaaPtw
namespace Go.Proofs.Ythjbccbaobkobaa.Eqp
open Go.RowKit Go.Proofs.Ythjbccbaobkobaa.PBase Go.Proofs.YthjbccbaobkobaaW.PrintWords Go.Proofs.YthjbccbaobkobaaW.PrintLast Go.Proofs.YthjbccbaobkobaaW.PrintMore
open Go.Proofs.Ythjbccbaobkobaa.Lin Go.Proofs.Ythjbccbaobkobaa.Bit Go.Proofs.Ythjbccbaobkobaa.Gra Go.Proofs.Ythjbccbaobkobaa.Red Go.Proofs.Ythjbccbaobkobaa.Ker Go.Proofs.Ythjbccbaobkobaa.Ext Go.Proofs.Ythjbccbaobkobaa.Rea Go.Proofs.Ythjbccbaobkobaa.Sol Go.Proofs.Ythjbccbaobkobaa.Sog Go.Proofs.Ythjbccbaobkobaa.Exd Go.Proofs.Ythjbccbaobkobaa.Pat Go.Proofs.Ythjbccbaobkobaa.Ptw

/-- All sums of a basis that is not too large. -/
def upTo8 (Q : List Nat) : List Int × Bool := if Q.length ≤ 8 then (zs (sums Q), true) else ([], false)
def qptF (l : List Int) (own : Bool) : List Int × Bool := if goodB l then upTo8 (refQ (efs l own)) else ([], false)
/-- patterns, called with the quiet patterns of a solver. -/
theorem patterns_sv {n0 S : Nat} {pv qv iv : Value} {es : List Nat} {P : List (Nat × Nat)} {Q I : List Nat} (he : ∀ e ∈ es, e < 2 ^ 16) (hn : es.length ≤ 16) (hk : Know es P Q I) (w : World) (hs : Sv w n0 S pv qv iv P Q I) :
    Calls Try.prog 44 #[qv] w fun e w' => ∃ v : Value, e = .returned v ∧ ki.R 3 w' w.heap.size (fun _ => True) v (zs (sums Q)) ∧ Below w.heap.size w w' := by
  obtain ⟨A, c, rfl, hc, hC⟩ := Kd.R_reads hs.q
  rw [zs_length] at *
  exact patterns_calls A c Q hk.inv.isB (hk.lt he hn).2.1 (Nat.le_trans hk.ql hn) hc w hC
set_option maxRecDepth 100000 in
set_option maxHeartbeats 8000000 in
theorem qpt_calls (A : Option Addr) (c : Nat) (l : List Int) (own : Bool) (w : World) (hC : ki.C w A l.length l) (hc : l.length ≤ c) :
    Calls Try.prog 36 #[.agg #[.slice A l.length c, .bool own]] w fun e w' => ∃ v0_ : Value, e = .returned (.tuple #[v0_, .bool (qptF l own).2]) ∧ ki.R 3 w' w.heap.size (fun _ => True) v0_ (qptF l own).1 ∧ Below w.heap.size w w' := by
  have hu := Try.underlying28
  have hgw := impl_isGraph.calls A c l own _ (w.alloc (.cells #[.slice A l.length c, .bool own] 28)) (Kd.C_alloc hC _) hc rfl
  cases hG : goodB l with
  | false =>
    have HW : Aside0 (qptF l own = ([], false)) := ⟨by unfold qptF; rw [hG]; rfl⟩
    rw [hG] at hgw
    clear hC hG
    generalize l.length = n at *
    go_enter Try.func36, Try.ntmps36
    go_wp2_with fail
    refine hgw.mono ?_
    rintro e w' ⟨rfl, hb⟩
    go_wp2
    go_ret2
    exact ⟨_, by rw [HW.out]; rfl, by rw [HW.out]; exact Kd.R_nil _ _ _ _ _, below_then (below_alloc (Below.refl _ _) _) (by simp) hb⟩
  | true =>
    have HG := Aside0.mk hG
    rw [hG] at hgw
    obtain ⟨m, rfl, hgood⟩ := good_zs hG
    have HSO := Aside0.mk (fun W (h : Below w.heap.size w W) => solverOf_calls A c m own hgood (by rw [← zs_length m]; exact hc) W (by have := Kd.C_below hC h; rwa [zs_length] at this))
    have h16 := hgood.le
    have HL : Aside0 ((tgls m own).length = m.length) := ⟨tgls_length m own⟩
    have HPT := Aside0.mk (fun n0 S pv qv iv P Q I (hk : Know (tgls m own) P Q I) w (hs : Sv w n0 S pv qv iv P Q I) => patterns_sv (tgls_lt16 hgood own) (by rw [tgls_length]; exact h16) hk w hs)
    rw [zs_length] at *
    clear hC hG hgood
    generalize m.length = n at *
    go_enter Try.func36, Try.ntmps36
    go_wp2_with fail
    refine hgw.mono ?_
    rintro e w1 ⟨rfl, hb⟩
    have hcell0 : w1.cell? ⟨w.heap.size, 0, none⟩ = some (.slice A n c) := (hb.cell (p := ⟨w.heap.size, 0, none⟩) (by simp)).trans (by simp)
    have hcell1 : w1.cell? ⟨w.heap.size, 1, none⟩ = some (.bool own) := (hb.cell (p := ⟨w.heap.size, 1, none⟩) (by simp)).trans (by simp)
    have hB1 : Below w.heap.size w w1 := below_then (below_alloc (Below.refl _ _) _) (by simp) hb
    have hso := HSO.out w1 hB1
    have HB1 := Aside0.mk hB1
    have hw1 : w.heap.size < w1.heap.size := World.block_lt_of_cell? w1 _ hcell0
    clear hgw hb hB1
    go_wp2_with fail
    refine hso.mono ?_
    rintro e w2 ⟨S, pv, qv, iv, P, Q, I, rfl, hsv, hk, hb2⟩
    have HB2 := Aside0.mk (below_then HB1.out HB1.out.size hb2)
    have HEQ : Aside0 (qptF (zs m) own = upTo8 Q) := ⟨by unfold qptF; rw [HG.out, if_pos rfl, efs, tn_zs, ← hk.inv.quiet_eq]⟩
    have HI := Aside0.mk (show ∃ A c, qv = .slice A Q.length c from by have := Kd.R_slice hsv.q; rwa [zs_length] at this)
    have hcc := hsv.c1
    have HQE := Aside0.mk hk.inv.quiet_eq
    have hcell2 : w2.cell? ⟨w.heap.size, 0, none⟩ = some (.slice A n c) := (hb2.cell (p := ⟨w.heap.size, 0, none⟩) hw1).trans hcell0
    have hcell3 : w2.cell? ⟨w.heap.size, 1, none⟩ = some (.bool own) := (hb2.cell (p := ⟨w.heap.size, 1, none⟩) hw1).trans hcell1
    clear hso hsv hk hb2 hcell0 hcell1
    obtain ⟨A', c', rfl⟩ := HI.out
    by_cases h8 : Q.length ≤ 8
    · have h8b : decide ((8 : Int) < (Q.length : Int)) = false := decide_eq_false (by omega)
      have HU : Aside0 (upTo8 Q = (zs (sums Q), true)) := ⟨if_pos h8⟩
      have hso2 := HSO.out w2 HB2.out
      have hw2 : w.heap.size < w2.heap.size := World.block_lt_of_cell? w2 _ hcell2
      go_wp2_with fail
      refine hso2.mono ?_
      rintro e w3 ⟨S2, pv2, qv2, iv2, P2, Q2, I2, rfl, hsv2, hk2, hb3⟩
      have hQQ : Q2 = Q := hk2.inv.quiet_eq.trans HQE.out.symm
      subst hQQ
      have hpt := HPT.out _ _ _ _ _ _ _ _ hk2 w3 hsv2
      have hcc3 := hsv2.c1
      have HB3 := Aside0.mk (below_then HB2.out HB2.out.size hb3)
      clear hso2 hsv2 hk2 hb3
      go_wp2_with fail
      refine hpt.mono ?_
      rintro e w4 ⟨v4, rfl, hR, hb4⟩
      have HR := Aside0.mk (Kd.R_lower hR HB3.out.size)
      have HB4 := Aside0.mk (below_then HB3.out HB3.out.size hb4)
      obtain ⟨A4, c4, rfl⟩ := Kd.R_slice hR
      clear hR hb4 hpt
      go_wp2
      go_ret2
      exact ⟨_, by rw [HEQ.out, HU.out]; rfl, by rw [HEQ.out, HU.out]; exact HR.out, HB4.out⟩
    · have h8b : decide ((8 : Int) < (Q.length : Int)) = true := decide_eq_true (by omega)
      have HU : Aside0 (upTo8 Q = ([], false)) := ⟨if_neg h8⟩
      go_wp2
      go_ret2
      exact ⟨_, by rw [HEQ.out, HU.out]; rfl, by rw [HEQ.out, HU.out]; exact Kd.R_nil _ _ _ _ _, HB2.out⟩
end Go.Proofs.Ythjbccbaobkobaa.Eqp
