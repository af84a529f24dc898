/- What the program's functions on boards compute: the program's walk, each once. -/
import Derived.Test.YtgnjndkbccakgaaExp
namespace Go.Proofs.Ytgnjndkbccakgaa.Exq
open Go.RowKit Go.Proofs.Ytgnjndkbccakgaa.PBase Go.Proofs.YtgnjndkbccakgaaW.PrintWords Go.Proofs.YtgnjndkbccakgaaW.PrintLast Go.Proofs.YtgnjndkbccakgaaW.PrintMore
open Go.Proofs.Ytgnjndkbccakgaa.Lin Go.Proofs.Ytgnjndkbccakgaa.Bit Go.Proofs.Ytgnjndkbccakgaa.Gra Go.Proofs.Ytgnjndkbccakgaa.Red Go.Proofs.Ytgnjndkbccakgaa.Ker Go.Proofs.Ytgnjndkbccakgaa.Ext Go.Proofs.Ytgnjndkbccakgaa.Rea Go.Proofs.Ytgnjndkbccakgaa.Sol Go.Proofs.Ytgnjndkbccakgaa.Sog Go.Proofs.Ytgnjndkbccakgaa.Exp

/-- A graph, and a set of its buttons. -/
def okS (l : List Int) (x : Int) : Bool := goodB l && decide (0 ≤ x ∧ x ≤ ((2 ^ l.length - 1 : Nat) : Int))
/-- What is left of lights, with the presses below. -/
def lef (l : List Int) (own : Bool) (x : Int) : Nat := red (refP (efs l own)) (x.toNat * 2 ^ (efs l own).length)
def slvd (l : List Int) (own : Bool) (x : Int) : Bool := decide (lef l own x / 2 ^ (efs l own).length = 0)
def canF (l : List Int) (own : Bool) (x : Int) : Bool × Bool := if okS l x then (slvd l own x, true) else (false, false)
def tel (b : Bool) (y : Nat) (c : Bool) : Int × Bool := if b then ((y : Int), true) else (0, c)
def slvF (l : List Int) (own : Bool) (x : Int) : Int × Bool := if okS l x then tel (slvd l own x) (red (refQ (efs l own)) (lef l own x)) false else (0, false)
def cntF (l : List Int) (own : Bool) (x : Int) : Int × Bool := if okS l x then tel (slvd l own x) (2 ^ (refQ (efs l own)).length) true else (0, false)
theorem eq_one {W : World} {b : Nat} {x : Int} (h : W.cell? ⟨b, 0, none⟩ = some (.int .i64 x)) : Kd.C (Kd.int .i64) W (some ⟨b, 0, none⟩) [x].length [x] :=
  Kd.C_of_reads (d := (0 : Int)) (h1 := fun _ => rfl) ⟨rfl, by simp, fun _ => ⟨_, rfl, fun j hj => by
    have : j = 0 := by simp at hj; omega
    subst this
    exact h⟩⟩
theorem okS_set (l : List Int) (x : Int) : (goodB l && !([x].any (noSet l.length))) = okS l x := by
  unfold okS noSet
  simp only [List.any_cons, List.any_nil, Bool.or_false, Bool.not_not]
theorem efs_zs (m : List Nat) (own : Bool) : efs (zs m) own = tgls m own := by rw [efs, tn_zs]
/-- What a solver answers is what the reference does. -/
theorem answer {m : List Nat} {own : Bool} {P : List (Nat × Nat)} {Q I : List Nat} (hk : Know (tgls m own) P Q I) {x l p : Nat} (hr : Reached P x l p) :
    (((l : Int) == 0) = slvd (zs m) own (x : Int)) ∧ (l = 0 → red Q p = red (refQ (efs (zs m) own)) (lef (zs m) own (x : Int))) ∧ (l = 0 ↔ slvd (zs m) own (x : Int) = true) := by
  obtain ⟨h1, h2⟩ := hk.inv.answer hr
  have h3 : l = 0 ↔ slvd (zs m) own (x : Int) = true := by
    unfold slvd lef
    rw [efs_zs, Int.toNat_natCast, decide_eq_true_eq]
    exact h1
  refine ⟨?_, fun h => ?_, h3⟩
  · rw [Bool.eq_iff_iff, ← h3, beq_iff_eq]; omega
  · unfold lef
    rw [efs_zs, Int.toNat_natCast]
    exact h2 h

set_option maxRecDepth 100000 in
set_option maxHeartbeats 4000000 in
theorem can_calls (A : Option Addr) (c : Nat) (l : List Int) (own : Bool) (x : Int) (w : World) (hC : ki.C w A l.length l) (hc : l.length ≤ c) :
    Calls Try.prog 27 #[.agg #[.slice A l.length c, .bool own], .int .i64 x] w fun e w' => e = .returned (.tuple #[.bool (canF l own x).1, .bool (canF l own x).2]) ∧ Below w.heap.size w w' := by
  have hu := Try.underlying36
  have hgw := impl_isSet.calls A c l own (some ⟨w.heap.size + 1, 0, none⟩) 1 [x] _ ((w.alloc (.cells #[.slice A l.length c, .bool own] 36)).alloc (.cells #[.int .i64 x] 3)) (Kd.C_alloc (Kd.C_alloc hC _) _) hc (eq_one (by simp)) (by simp) rfl
  rw [okS_set] at hgw
  unfold canF
  cases hG : okS l x with
  | false =>
    rw [hG] at hgw
    clear hC hG
    generalize l.length = n at *
    go_enter Try.func27, Try.ntmps27
    go_wp2_with fail
    refine hgw.mono ?_
    rintro e w' ⟨rfl, hb⟩
    go_wp2
    go_ret2
    exact ⟨rfl, below_then (below_alloc (below_alloc (Below.refl _ _) _) _) (by simp; omega) hb⟩
  | true =>
    rw [hG] at hgw
    unfold okS at hG
    rw [Bool.and_eq_true, decide_eq_true_eq] at hG
    obtain ⟨hG, hx0, hx1⟩ := hG
    obtain ⟨x, rfl⟩ := Int.eq_ofNat_of_zero_le hx0
    obtain ⟨m, rfl, hgood⟩ := good_zs hG
    have HSO := Aside0.mk (fun W (h : Below w.heap.size w W) => solverOf_calls A c m own hgood (by rw [← zs_length m]; exact hc) W (by have := Kd.C_below hC h; rwa [zs_length] at this))
    have h16 := hgood.le
    have hx62 : x < 2 ^ 62 := by
      have h1 : x ≤ 2 ^ (zs m).length - 1 := by exact_mod_cast hx1
      have h2 := pow16 hgood
      rw [zs_length] at h1
      have h3 := Nat.two_pow_pos m.length
      exact Nat.lt_of_lt_of_le (show x < 2 ^ m.length by omega) (Nat.le_trans h2 (by decide))
    have HL : Aside0 ((tgls m own).length = m.length) := ⟨tgls_length m own⟩
    have HSV := Aside0.mk (fun (n0 S : Nat) pv qv iv P Q I (hk : Know (tgls m own) P Q I) w (hs : Sv w n0 S pv qv iv P Q I) => solve_calls (tgls_lt16 hgood own) (by rw [tgls_length]; exact h16) hk x hx62 w hs)
    rw [zs_length] at *
    clear hC hG hgood hx0 hx1 hx62
    generalize m.length = n at *
    go_enter Try.func27, Try.ntmps27
    go_wp2_with fail
    refine hgw.mono ?_
    rintro e w1 ⟨rfl, hb⟩
    have hcell0 : w1.cell? ⟨w.heap.size, 0, none⟩ = some (.slice A n c) := (hb.cell (p := ⟨w.heap.size, 0, none⟩) (by simp; omega)).trans (by simp)
    have hcell1 : w1.cell? ⟨w.heap.size, 1, none⟩ = some (.bool own) := (hb.cell (p := ⟨w.heap.size, 1, none⟩) (by simp; omega)).trans (by simp)
    have hB1 : Below w.heap.size w w1 := below_then (below_alloc (below_alloc (Below.refl _ _) _) _) (by simp; omega) hb
    have hso := HSO.out w1 hB1
    have HB1 := Aside0.mk hB1
    clear hgw hb hB1
    go_wp2_with fail
    refine hso.mono ?_
    rintro e w2 ⟨S, pv, qv, iv, P, Q, I, rfl, hsv, hk, hb2⟩
    have HB2 := Aside0.mk (below_then HB1.out HB1.out.size hb2)
    have HK := Aside0.mk hk
    have HV := Aside0.mk hsv
    clear hso hsv hk hb2 hcell0 hcell1
    have hsl := HSV.out _ _ _ _ _ _ _ _ HK.out w2 HV.out
    go_wp2_with fail
    refine hsl.mono ?_
    rintro e w3 ⟨l', p', rfl, hre, hb3⟩
    have HB3 := Aside0.mk (below_then HB2.out HB2.out.size hb3)
    have HA := Aside0.mk (answer (m := m) (own := own) HK.out hre)
    clear hsl hre hb3
    generalize ((l' : Int) == 0) = b at *
    go_wp2
    go_ret2
    exact ⟨by simp [HA.out.1], HB3.out⟩

set_option maxRecDepth 100000 in
set_option maxHeartbeats 4000000 in
theorem cnt_calls (A : Option Addr) (c : Nat) (l : List Int) (own : Bool) (x : Int) (w : World) (hC : ki.C w A l.length l) (hc : l.length ≤ c) :
    Calls Try.prog 28 #[.agg #[.slice A l.length c, .bool own], .int .i64 x] w fun e w' => e = .returned (.tuple #[.int .i64 (cntF l own x).1, .bool (cntF l own x).2]) ∧ Below w.heap.size w w' := by
  have hu := Try.underlying36
  have hgw := impl_isSet.calls A c l own (some ⟨w.heap.size + 1, 0, none⟩) 1 [x] _ ((w.alloc (.cells #[.slice A l.length c, .bool own] 36)).alloc (.cells #[.int .i64 x] 3)) (Kd.C_alloc (Kd.C_alloc hC _) _) hc (eq_one (by simp)) (by simp) rfl
  rw [okS_set] at hgw
  unfold cntF
  cases hG : okS l x with
  | false =>
    rw [hG] at hgw
    clear hC hG
    generalize l.length = n at *
    go_enter Try.func28, Try.ntmps28
    go_wp2_with fail
    refine hgw.mono ?_
    rintro e w' ⟨rfl, hb⟩
    go_wp2
    go_ret2
    exact ⟨rfl, below_then (below_alloc (below_alloc (Below.refl _ _) _) _) (by simp; omega) hb⟩
  | true =>
    rw [hG] at hgw
    unfold okS at hG
    rw [Bool.and_eq_true, decide_eq_true_eq] at hG
    obtain ⟨hG, hx0, hx1⟩ := hG
    obtain ⟨x, rfl⟩ := Int.eq_ofNat_of_zero_le hx0
    obtain ⟨m, rfl, hgood⟩ := good_zs hG
    have HSO := Aside0.mk (fun W (h : Below w.heap.size w W) => solverOf_calls A c m own hgood (by rw [← zs_length m]; exact hc) W (by have := Kd.C_below hC h; rwa [zs_length] at this))
    have h16 := hgood.le
    have hx62 : x < 2 ^ 62 := by
      have h1 : x ≤ 2 ^ (zs m).length - 1 := by exact_mod_cast hx1
      have h2 := pow16 hgood
      rw [zs_length] at h1
      have h3 := Nat.two_pow_pos m.length
      exact Nat.lt_of_lt_of_le (show x < 2 ^ m.length by omega) (Nat.le_trans h2 (by decide))
    have HL : Aside0 ((tgls m own).length = m.length) := ⟨tgls_length m own⟩
    have HSV := Aside0.mk (fun (n0 S : Nat) pv qv iv P Q I (hk : Know (tgls m own) P Q I) w (hs : Sv w n0 S pv qv iv P Q I) => solve_calls (tgls_lt16 hgood own) (by rw [tgls_length]; exact h16) hk x hx62 w hs)
    rw [zs_length] at *
    clear hC hG hgood hx0 hx1 hx62
    generalize m.length = n at *
    go_enter Try.func28, Try.ntmps28
    go_wp2_with fail
    refine hgw.mono ?_
    rintro e w1 ⟨rfl, hb⟩
    have hcell0 : w1.cell? ⟨w.heap.size, 0, none⟩ = some (.slice A n c) := (hb.cell (p := ⟨w.heap.size, 0, none⟩) (by simp; omega)).trans (by simp)
    have hcell1 : w1.cell? ⟨w.heap.size, 1, none⟩ = some (.bool own) := (hb.cell (p := ⟨w.heap.size, 1, none⟩) (by simp; omega)).trans (by simp)
    have hB1 : Below w.heap.size w w1 := below_then (below_alloc (below_alloc (Below.refl _ _) _) _) (by simp; omega) hb
    have hso := HSO.out w1 hB1
    have HB1 := Aside0.mk hB1
    clear hgw hb hB1
    go_wp2_with fail
    refine hso.mono ?_
    rintro e w2 ⟨S, pv, qv, iv, P, Q, I, rfl, hsv, hk, hb2⟩
    have HB2 := Aside0.mk (below_then HB1.out HB1.out.size hb2)
    have HK := Aside0.mk hk
    have HV := Aside0.mk hsv
    clear hso hsv hk hb2 hcell0 hcell1
    have hsl := HSV.out _ _ _ _ _ _ _ _ HK.out w2 HV.out
    go_wp2_with fail
    refine hsl.mono ?_
    rintro e w3 ⟨l', p', rfl, hre, hb3⟩
    have HB3 := Aside0.mk (below_then HB2.out HB2.out.size hb3)
    have HA := Aside0.mk (answer (m := m) (own := own) HK.out hre)
    have HV3 := Aside0.mk (HV.out.below hb3)
    clear hsl hre hb3
    have HE3 := Aside0.mk (HA.out.2.2)
    by_cases h0 : l' = 0
    · have hbt : ((l' : Int) == 0) = true := by rw [h0]; rfl
      have HT := Aside0.mk (HE3.out.1 h0)
      have HQ := Aside0.mk HK.out.inv.quiet_eq
      have HS := Aside0.mk (show ∃ A c, qv = .slice A Q.length c from by have := Kd.R_slice HV3.out.q; rwa [zs_length] at this)
      have hln : Q.length ≤ 16 := by have := HK.out.ql; have := HL.out; omega
      have hc1 := HV3.out.c1
      have hsh := shl_len Q.length hln
      obtain ⟨A', c', rfl⟩ := HS.out
      clear h0 HA HE3
      rw [hbt]
      go_wp2
      go_ret2
      exact ⟨by simp [tel, HT.out, efs_zs, ← HQ.out], HB3.out⟩
    · have hbt : ((l' : Int) == 0) = false := by rw [beq_eq_false_iff_ne]; omega
      have HT := Aside0.mk (fun h => h0 (HE3.out.2 h))
      clear h0 HA HE3
      rw [hbt]
      go_wp2
      go_ret2
      exact ⟨by simp [tel, Bool.eq_false_iff.2 HT.out], HB3.out⟩
end Go.Proofs.Ytgnjndkbccakgaa.Exq
