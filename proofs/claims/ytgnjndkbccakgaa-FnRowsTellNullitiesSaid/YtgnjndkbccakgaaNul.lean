/- What impl.nullityByRows computes: the program's walk, once. -/
import Derived.Test.YtgnjndkbccakgaaSol
import Derived.Test.YtgnjndkbccakgaaCnt
import Derived.Test.YtgnjndkbccakgaaPBas3x
namespace Go.Proofs.Ytgnjndkbccakgaa.Nul
open Go.RowKit Go.Proofs.Ytgnjndkbccakgaa.PBase Go.Proofs.YtgnjndkbccakgaaW.PrintWords Go.Proofs.YtgnjndkbccakgaaW.PrintLast Go.Proofs.YtgnjndkbccakgaaW.PrintMore
open Go.Proofs.Ytgnjndkbccakgaa.Lin Go.Proofs.Ytgnjndkbccakgaa.Bit Go.Proofs.Ytgnjndkbccakgaa.Gra Go.Proofs.Ytgnjndkbccakgaa.Red Go.Proofs.Ytgnjndkbccakgaa.Ker Go.Proofs.Ytgnjndkbccakgaa.Ext Go.Proofs.Ytgnjndkbccakgaa.Rea Go.Proofs.Ytgnjndkbccakgaa.Sol Go.Proofs.Ytgnjndkbccakgaa.Row Go.Proofs.Ytgnjndkbccakgaa.Cnt

theorem behind_calls (c : Nat) (hc : c ≤ 16) (own : Bool) (f : Nat) (hf : f < 2 ^ c) (n : Nat) (hn : n ≤ 1000) (w : World) :
    Calls Try.prog 78 #[.int .i64 (c : Int), .bool own, .int .i64 (f : Int), .int .i64 (n : Int)] w fun e w' => e = .returned (.int .i64 (((cr c own 0 f n).2 : Nat) : Int)) ∧ Below w.heap.size w w' := by
  refine PBas3.impl_rowBehind.calls _ _ _ _ _ w ?_
  have hok : PBas3.rbOk (c : Int) (f : Int) (n : Int) = true := by
    unfold PBas3.rbOk
    simp only [Bool.and_eq_true, decide_eq_true_eq, Int.toNat_natCast]
    omega
  unfold PBas3.impl_rowBehind.f
  rw [if_pos hok]
  simp only [Int.toNat_natCast]
theorem shl_one (k : Nat) (h : k ≤ 16) : wrap64 ((2 : Int) ^ k) = ((2 ^ k : Nat) : Int) := by
  have h1 : ((2 : Int) ^ k) = ((2 ^ k : Nat) : Int) := by norm_cast
  have h2 : 2 ^ k ≤ 2 ^ 16 := Nat.pow_le_pow_right (by decide) h
  rw [h1, wrapn _ (Nat.lt_of_le_of_lt h2 (by decide))]
theorem rws_take (c : Nat) (own : Bool) (rows : Nat) {i : Nat} (hi : i < c) : (rws c own rows).take (i + 1) = (rws c own rows).take i ++ [(cr c own 0 (2 ^ i) rows).2] := by
  rw [List.take_succ_eq_append_getElem (by rw [rws_length]; exact hi)]
  simp [rws]
theorem rws_lt (c : Nat) (own : Bool) (rows : Nat) : ∀ e ∈ rws c own rows, e < 2 ^ c := fun e he => by
  obtain ⟨i, hi, rfl⟩ := List.mem_map.1 he
  exact (cr_lt own 0 (Nat.pow_lt_pow_right (by decide) (List.mem_range.1 hi)) rows).2
set_option maxRecDepth 100000 in
set_option maxHeartbeats 4000000 in
theorem nullityByRows_calls (c : Nat) (hc : c ≤ 16) (own : Bool) (rows : Nat) (hr : rows ≤ 1000) (w : World) :
    Calls Try.prog 58 #[.int .i64 (rows : Int), .int .i64 (c : Int), .bool own] w fun e w' => e = .returned (.int .i64 ((c - (img (rws c own rows)).length : Nat) : Int)) ∧ Below w.heap.size w w' := by
  have HLE := Aside0.mk (img_le (rws c own rows))
  have HB0 := Aside0.mk (Below.refl w.heap.size w)
  go_enter Try.func58, Try.ntmps58
  go_wp2_with (first
    | ((with_reducible refine gate_dst (N := 9) rfl ?_); refine Kd.R_lit ki _ 3 ?hg (N := 9) ?hd (xs := ([] : List Int)) (inner := []) (ok := fun _ => True) (okp := fun _ => True) ?hr ?hp (fun _ hk => hk) trivial (Below.refl _ _) (Nat.le_refl _) (by simp) ?_; (case hd => rfl); (case hg => rfl); (case hr => first | (go_simp; done) | (go_simp; rfl)); (case hp => exact (Reps.none _ _)); intro v1 w2 ho hb2 hg_ hnew_; clear hg_ hnew_; have HO := Aside0.mk (Kd.R_lower ho (below_size HB0.out)); have HB := Aside0.mk (below_step HB0.out hb2); clear ho hb2))
  go_loopw [7, 11] (fun v s wr => ∃ i : Nat, i ≤ c ∧ s = .int .i64 i ∧ Aside0 (ki.R 3 wr w.heap.size (fun _ => True) v (zs (img ((rws c own rows).take i)))) ∧ Aside0 (Below w.heap.size w wr)) (fun _ s _ => c - (intOf s).toNat)
  case atStart => exact ⟨0, Nat.zero_le _, rfl, HO, HB⟩
  case round =>
    clear HO HB
    obtain ⟨i, hi, rfl, HO, HB⟩ := hrel
    by_cases hlt : i < c
    · have hi16 : 2 ^ i < 2 ^ c := Nat.pow_lt_pow_right (by decide) hlt
      have hc16 : 2 ^ c ≤ 2 ^ 16 := Nat.pow_le_pow_right (by decide) hc
      have hsh := shl_one i (by omega)
      have hbe := fun W => behind_calls c hc own (2 ^ i) hi16 rows hr W
      have hrl := (cr_lt own 0 hi16 rows).2
      have hl62 : (cr c own 0 (2 ^ i) rows).2 < 2 ^ 62 := Nat.lt_of_lt_of_le hrl (Nat.le_trans hc16 (by decide))
      have hblt : ∀ b ∈ img ((rws c own rows).take i), b < 2 ^ 62 := fun b hb => Nat.lt_of_lt_of_le (img_lt (n := c) (fun e he => rws_lt c own rows e (List.mem_of_mem_take he)) b hb) (Nat.le_trans hc16 (by decide))
      have hbl : (img ((rws c own rows).take i)).length ≤ 1000000 := by
        have h1 := Sol.img_len ((rws c own rows).take i)
        rw [List.length_take] at h1
        omega
      have HX := Aside0.mk (fun (W : World) (hn : w.heap.size ≤ W.heap.size) v (hR : ki.R 3 W w.heap.size (fun _ => True) v (zs (img ((rws c own rows).take i)))) => extended_R (s := (cr c own 0 (2 ^ i) rows).2) hl62 (img_isB _) hblt hbl hn hR)
      have HE : Aside0 (putB (img ((rws c own rows).take i)) (cr c own 0 (2 ^ i) rows).2 = img ((rws c own rows).take (i + 1))) := ⟨by rw [rws_take c own rows hlt, img_snoc]⟩
      clear hi16 hc16 hrl hl62 hblt hbl
      generalize (cr c own 0 (2 ^ i) rows).2 = y at *
      generalize (2 : Nat) ^ i = t at *
      go_wp2_with fail
      refine (hbe _).mono ?_
      rintro e w3 ⟨rfl, hb3⟩
      have HB3 := Aside0.mk (below_step HB.out hb3)
      have hx := HX.out w3 (below_size HB3.out) _ (Kd.R_below HO.out hb3)
      clear hb3
      go_wp2_with fail
      refine hx.mono ?_
      rintro e w4 ⟨v4, rfl, hb4, hR4⟩
      rw [HE.out] at hR4
      have HO4 := Aside0.mk hR4
      have HB4 := Aside0.mk (below_step HB3.out hb4)
      clear hb4 hR4 hx
      go_wp2
      go_roundw
      case rel => exact ⟨i + 1, by omega, by go_num, HO4, HB4⟩
      case measure => simp [intOf]; omega
    · obtain rfl : i = c := by omega
      rw [List.take_of_length_le (by rw [rws_length]; exact Nat.le_refl _)] at HO
      have hle := HLE.out
      rw [rws_length] at hle
      have HV := Aside0.mk (show ∃ A c', u7 = .slice A (img (rws i own rows)).length c' from by have := Kd.R_slice HO.out; rwa [zs_length] at this)
      obtain ⟨A', c', hv⟩ := HV.out
      subst hv
      have hcast : ((i - (img (rws i own rows)).length : Nat) : Int) = (i : Int) - ((img (rws i own rows)).length : Int) := by omega
      clear HV HO HLE
      generalize hL : (img (rws i own rows)).length = L at *
      have HL := Aside0.mk hL
      clear hL
      go_wp2
      go_ret
      refine ⟨?_, HB.out⟩
      rw [HL.out, hcast]; rfl
end Go.Proofs.Ytgnjndkbccakgaa.Nul
