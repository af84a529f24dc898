/- What the program's functions on solutions compute: the program's walk, each once. -/
import Derived.Test.YtgnjndkbccakgaaSog
namespace Go.Proofs.Ytgnjndkbccakgaa.Exp
open Go.RowKit Go.Proofs.Ytgnjndkbccakgaa.PBase Go.Proofs.YtgnjndkbccakgaaW.PrintWords Go.Proofs.YtgnjndkbccakgaaW.PrintLast Go.Proofs.YtgnjndkbccakgaaW.PrintMore
open Go.Proofs.Ytgnjndkbccakgaa.Lin Go.Proofs.Ytgnjndkbccakgaa.Bit Go.Proofs.Ytgnjndkbccakgaa.Gra Go.Proofs.Ytgnjndkbccakgaa.Red Go.Proofs.Ytgnjndkbccakgaa.Ker Go.Proofs.Ytgnjndkbccakgaa.Ext Go.Proofs.Ytgnjndkbccakgaa.Rea Go.Proofs.Ytgnjndkbccakgaa.Sol Go.Proofs.Ytgnjndkbccakgaa.Sog

def tn (l : List Int) : List Nat := l.map Int.toNat
theorem tn_zs (m : List Nat) : tn (zs m) = m := by
  unfold tn zs
  rw [List.map_map]
  exact (List.map_congr_left fun x _ => Int.toNat_natCast x).trans (List.map_id _)
/-- The effects of a graph's buttons. -/
def efs (l : List Int) (own : Bool) : List Nat := tgls (tn l) own
theorem shl_len (k : Nat) (h : k ≤ 16) : wrap64 ((2 : Int) ^ k) = ((2 ^ k : Nat) : Int) := by
  have h1 : ((2 : Int) ^ k) = ((2 ^ k : Nat) : Int) := by norm_cast
  have h2 : 2 ^ k ≤ 2 ^ 16 := Nat.pow_le_pow_right (by decide) h
  rw [h1, wrapn _ (Nat.lt_of_le_of_lt h2 (by decide))]
def rankF (l : List Int) (own : Bool) : Int × Bool := if goodB l then (((img (efs l own)).length : Nat), true) else (0, false)
def nullF (l : List Int) (own : Bool) : Int × Bool := if goodB l then (((refQ (efs l own)).length : Nat), true) else (0, false)
def csvF (l : List Int) (own : Bool) : Int × Bool := if goodB l then ((2 ^ (img (efs l own)).length : Nat), true) else (0, false)
def imgF (l : List Int) (own : Bool) : List Int × Bool := if goodB l then (zs (img (efs l own)), true) else ([], false)
def quiF (l : List Int) (own : Bool) : List Int × Bool := if goodB l then (zs (refQ (efs l own)), true) else ([], false)

set_option maxRecDepth 100000 in
set_option maxHeartbeats 4000000 in
theorem null_calls (A : Option Addr) (c : Nat) (l : List Int) (own : Bool) (w : World) (hC : ki.C w A l.length l) (hc : l.length ≤ c) :
    Calls Try.prog 31 #[.agg #[.slice A l.length c, .bool own]] w fun e w' => e = .returned (.tuple #[.int .i64 (nullF l own).1, .bool (nullF l own).2]) ∧ Below w.heap.size w w' := by
  have hu := Try.underlying36
  have hgw := impl_isGraph.calls A c l own _ (w.alloc (.cells #[.slice A l.length c, .bool own] 36)) (Kd.C_alloc hC _) hc rfl
  unfold nullF
  cases hG : goodB l with
  | false =>
    rw [hG] at hgw
    clear hC hG
    generalize l.length = n at *
    go_enter Try.func31, Try.ntmps31
    go_wp2_with fail
    refine hgw.mono ?_
    rintro e w' ⟨rfl, hb⟩
    go_wp2
    go_ret2
    exact ⟨rfl, below_then (below_alloc (Below.refl _ _) _) (by simp) hb⟩
  | true =>
    rw [hG] at hgw
    obtain ⟨m, rfl, hgood⟩ := good_zs hG
    have HSO := Aside0.mk (fun W (h : Below w.heap.size w W) => solverOf_calls A c m own hgood (by rw [← zs_length m]; exact hc) W (by have := Kd.C_below hC h; rwa [zs_length] at this))
    have h16 := hgood.le
    have HL : Aside0 ((tgls m own).length = m.length) := ⟨tgls_length m own⟩
    rw [zs_length] at *
    clear hC hG hgood
    rw [efs, tn_zs]
    generalize m.length = n at *
    go_enter Try.func31, Try.ntmps31
    go_wp2_with fail
    refine hgw.mono ?_
    rintro e w1 ⟨rfl, hb⟩
    have hcell0 : w1.cell? ⟨w.heap.size, 0, none⟩ = some (.slice A n c) := (hb.cell (p := ⟨w.heap.size, 0, none⟩) (by simp)).trans (by simp)
    have hcell1 : w1.cell? ⟨w.heap.size, 1, none⟩ = some (.bool own) := (hb.cell (p := ⟨w.heap.size, 1, none⟩) (by simp)).trans (by simp)
    have hB1 : Below w.heap.size w w1 := below_then (below_alloc (Below.refl _ _) _) (by simp) hb
    have hso := HSO.out w1 hB1
    have HB1 := Aside0.mk hB1
    clear hgw hb hB1
    go_wp2_with fail
    refine hso.mono ?_
    rintro e w2 ⟨S, pv, qv, iv, P, Q, I, rfl, hsv, hk, hb2⟩
    have HB2 := Aside0.mk (below_then HB1.out HB1.out.size hb2)
    have HE := Aside0.mk hk.inv.quiet_eq
    have HI := Aside0.mk (⟨Kd.R_lower hsv.q HB1.out.size, by have := Kd.R_slice hsv.q; rwa [zs_length] at this⟩ : ki.R 3 w2 w.heap.size (fun _ => True) qv (zs Q) ∧ ∃ A c, qv = .slice A Q.length c)
    have hln : Q.length ≤ 16 := by have := hk.ql; have := HL.out; omega
    have hcc := hsv.c1
    clear hso hsv hk hb2 hcell0 hcell1
    obtain ⟨hR, A', c', rfl⟩ := HI.out
    have HR := Aside0.mk hR
    clear hR
    go_wp2
    go_ret2
    exact ⟨by simp [← HE.out], HB2.out⟩

end Go.Proofs.Ytgnjndkbccakgaa.Exp
