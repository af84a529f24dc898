/- What impl.patterns computes: the program's walk, once: its loops that append, its sort. -/
import Derived.Test.YthjbccbaobkobaaSol
import Derived.Test.YthjbccbaobkobaaPat
namespace Go.Proofs.Ythjbccbaobkobaa.Ptw
open Go.RowKit Go.Proofs.Ythjbccbaobkobaa.PBase Go.Proofs.YthjbccbaobkobaaW.PrintWords Go.Proofs.YthjbccbaobkobaaW.PrintLast Go.Proofs.YthjbccbaobkobaaW.PrintMore
open Go.Proofs.Ythjbccbaobkobaa.Lin Go.Proofs.Ythjbccbaobkobaa.Bit Go.Proofs.Ythjbccbaobkobaa.Gra Go.Proofs.Ythjbccbaobkobaa.Red Go.Proofs.Ythjbccbaobkobaa.Ker Go.Proofs.Ythjbccbaobkobaa.Ext Go.Proofs.Ythjbccbaobkobaa.Rea Go.Proofs.Ythjbccbaobkobaa.Sol Go.Proofs.Ythjbccbaobkobaa.Pat Go.Sort Go.Shelf

theorem clone_calls {n0 : Nat} {l : List Int} (hl : l.length ≤ 1000000000000) {w : World} {v : Value} (hR : ki.R 3 w n0 (fun _ => True) v l) :
    Calls Try.prog 74 #[v] w fun e w' => ∃ v' : Value, e = .returned v' ∧ ki.R 3 w' w.heap.size (fun _ => True) v' l ∧ Below w.heap.size w w' := by
  obtain ⟨A, c, rfl, hc, hC⟩ := Kd.R_reads hR
  exact slices_Clone_int_int.calls A c l l w hC hc (by unfold slices_Clone_int_int.f; rw [if_pos hl])
theorem sort_same {l : List Int} (h : l.Pairwise (· ≤ ·)) : l.mergeSort = l := List.mergeSort_of_pairwise (h.imp fun h => by simpa using h)
theorem sums_take (B : List Nat) {i : Nat} (hi : i < B.length) : sums (B.take (i + 1)) = sums (B.take i) ++ (sums (B.take i)).map (· ^^^ B.getD i 0) := by
  rw [List.take_succ_eq_append_getElem hi, sums_snoc, gD_lt _ _ hi]
theorem sums_lt {B : List Nat} (h : ∀ b ∈ B, b < 2 ^ 62) : ∀ x ∈ sums B, x < 2 ^ 62 := fun x hx => Sp.lt h (sums_sp B x hx)
theorem zs_rise {l : List Nat} (h : l.Pairwise (· < ·)) : (zs l).mergeSort (fun x y => decide (x ≤ y)) = zs l := by
  refine List.mergeSort_of_pairwise ?_
  unfold zs
  rw [List.pairwise_map]
  exact h.imp fun h => by simpa using Nat.le_of_lt h
theorem map_take (S : List Nat) (b : Nat) {j : Nat} (hj : j < S.length) : zs (S ++ (S.take (j + 1)).map (· ^^^ b)) = zs (S ++ (S.take j).map (· ^^^ b)) ++ [((S.getD j 0 ^^^ b : Nat) : Int)] := by
  rw [List.take_succ_eq_append_getElem hj, List.map_append, ← List.append_assoc, zs_append, gD_lt _ _ hj]; rfl
set_option maxRecDepth 100000 in
set_option maxHeartbeats 8000000 in
theorem patterns_calls (A : Option Addr) (cap : Nat) (B : List Nat) (hB : IsB B) (hlt : ∀ b ∈ B, b < 2 ^ 62) (hl : B.length ≤ 16) (hcap : B.length ≤ cap) (w : World) (hC : ki.C w A B.length (zs B)) :
    Calls Try.prog 44 #[.slice A B.length cap] w fun e w' => ∃ v : Value, e = .returned v ∧ ki.R 3 w' w.heap.size (fun _ => True) v (zs (sums B)) ∧ Below w.heap.size w w' := by
  have HC := Aside0.mk hC
  have HBI : Aside0 (∀ i, i < B.length → B.getD i 0 < 2 ^ 62) := ⟨fun i hi => by rw [gD_lt _ _ hi]; exact hlt _ (List.getElem_mem hi)⟩
  have HSL : Aside0 (∀ i, i ≤ B.length → (sums (B.take i)).length ≤ 65536 ∧ ∀ x ∈ sums (B.take i), x < 2 ^ 62) := ⟨fun i hi => by
    refine ⟨?_, sums_lt fun b hb => hlt b (List.mem_of_mem_take hb)⟩
    rw [sums_len, List.length_take, Nat.min_eq_left hi]
    exact Nat.le_trans (Nat.pow_le_pow_right (by decide) (Nat.le_trans hi hl)) (by decide)⟩
  have HST := Aside0.mk (fun (i : Nat) (hi : i < B.length) => sums_take B hi)
  have HA : Aside0 (B.take B.length = B) := ⟨List.take_length⟩
  have HZ := Aside0.mk (zs_rise (sums_rise hB))
  have HB0 := Aside0.mk (Below.refl w.heap.size w)
  clear hC hlt hB
  generalize B.length = n at *
  go_enter Try.func44, Try.ntmps44
  go_wp2_with (first
    | ((with_reducible refine gate_dst (N := 8) rfl ?_); refine Kd.R_lit ki _ 3 ?hg (N := 8) ?hd (xs := [(0 : Int)]) (inner := [.int .i64 0]) (ok := fun _ => True) (okp := fun _ => True) ?hr ?hp (fun _ hk => hk) trivial (Below.refl _ _) (Nat.le_refl _) (by simp) ?_; (case hd => rfl); (case hg => rfl); (case hr => first | (go_simp; done) | (go_simp; rfl)); (case hp => exact (Reps.one rfl (Reps.none _ _))); intro v1 w2 ho hb2 hg_ hnew_; clear hg_ hnew_; have HO := Aside0.mk (Kd.R_lower ho (below_size HB0.out)); have HB := Aside0.mk (below_step HB0.out hb2); clear ho hb2))
  go_loopw [3, 11] (fun v s wr => ∃ i : Nat, i ≤ n ∧ s = .int .i64 i ∧ Aside0 (ki.R 3 wr w.heap.size (fun _ => True) v (zs (sums (B.take i)))) ∧ Aside0 (Below w.heap.size w wr)) (fun _ s _ => n - (intOf s).toNat)
  case atStart => exact ⟨0, Nat.zero_le _, rfl, HO, HB⟩
  case round =>
    clear HO HB
    obtain ⟨i, hi, rfl, HO, HB⟩ := hrel
    by_cases hlti : i < n
    · obtain ⟨ad, e1, hci⟩ := Kd.at_int (Kd.C_below HC.out HB.out) (i : Int) (by omega) (by omega)
      subst e1
      rw [Int.toNat_natCast, rd_zs] at hci
      have hb62 := HBI.out i hlti
      have HT := Aside0.mk (HST.out i hlti)
      obtain ⟨hS1, hS2⟩ := HSL.out i hi
      have HS2 := Aside0.mk (fun j (hj : j < (sums (B.take i)).length) => (show (sums (B.take i)).getD j 0 < 2 ^ 62 by rw [gD_lt _ _ hj]; exact hS2 _ (List.getElem_mem hj)))
      clear hS2
      generalize sums (B.take i) = S at *
      generalize B.getD i 0 = b at *
      have hcl := clone_calls (by rw [zs_length]; omega) HO.out
      go_wp2_with fail
      refine hcl.mono ?_
      rintro e w3 ⟨vc, rfl, hRc, hb3⟩
      have HB3 := Aside0.mk (below_step HB.out hb3)
      have HO3 := Aside0.mk (Kd.R_below HO.out hb3)
      obtain ⟨Ac, cc, hvc, hcc, hCc⟩ := Kd.R_reads hRc
      rw [zs_length] at hvc hcc hCc
      subst hvc
      have HV3 := Aside0.mk (Kd.R_newR hRc HO.out)
      have HMT := Aside0.mk (fun (j : Nat) (hj : j < S.length) => map_take S b hj)
      have HSm : Aside0 (S.take S.length = S) := ⟨List.take_length⟩
      have HZL : Aside0 ((zs S).length = S.length) := ⟨zs_length S⟩
      have HLEN : Aside0 (∀ j, j ≤ S.length → (zs (S ++ (S.take j).map (· ^^^ b))).length ≤ 2 * S.length) := ⟨fun j hj => by rw [zs_length, List.length_append, List.length_map, List.length_take]; omega⟩
      have HO4 : Aside0 (ki.R 3 w3 w.heap.size (fun _ => True) u3 (zs (S ++ (S.take 0).map (· ^^^ b)))) := ⟨by simpa using HO3.out⟩
      clear hcl hRc hb3 hci hCc HO HO3
      generalize S.length = m at *
      generalize wr.heap.size = n1 at *
      go_wp2
      go_loopw [3, 18] (fun v s wj => ∃ j : Nat, j ≤ m ∧ s = .int .i64 j ∧ Aside0 (ki.R 3 wj w.heap.size (fun _ => True) v (zs (S ++ (S.take j).map (· ^^^ b)))) ∧ Aside0 (ki.R 3 wj n1 (fun k => True ∧ some k ≠ v.ownBlock) (.slice Ac m cc) (zs S)) ∧ Aside0 (Below w.heap.size w wj)) (fun _ s _ => m - (intOf s).toNat)
      case atStart => exact ⟨0, Nat.zero_le _, rfl, HO4, HV3, HB3⟩
      case round =>
        clear HO4 HV3 HB3
        obtain ⟨j, hj, rfl, HO, HV, HBj⟩ := hrel
        by_cases hltj : j < m
        · have hCj := (Kd.R_reads' HV.out).2.2
          rw [HZL.out] at hCj
          obtain ⟨ad2, e2, hcj⟩ := Kd.at_int hCj (j : Int) (by omega) (by omega)
          subst e2
          rw [Int.toNat_natCast, rd_zs] at hcj
          have hx62 := HS2.out j hltj
          have HM := Aside0.mk (HMT.out j hltj)
          generalize S.getD j 0 = x at *
          have hxor := xorn x b (by omega) (by omega)
          generalize hy : x ^^^ b = y at *
          clear hCj
          go_wp2_with (first
            | ((with_reducible refine gate_builtin (b := .append) (xs := #[.tmp 22, .tmp 26]) rfl ?_); at_builtin; refine Kd.R_append ki (w0 := w) w.heap.size rfl (.tmp 22) (.tmp 26) 22 3 (.int .i64 0) 8 rfl Try.underlying22 info_int rfl (by decide) (by omega) _ (zs (S ++ (S.take j).map (· ^^^ b))) ((y : Nat) : Int) [.int .i64 ((y : Nat) : Int)] (fun _ => True) (fun _ => False) rfl rfl ?aP (fun _ hk => hk.elim) ?aF ?aO ?aB ?aS ?aL ?_; (case aP => exact rfl); (case aF => exact (fun _ _ => trivial)); (case aO => exact HO.out); (case aB => exact HBj.out); (case aS => exact (below_size HBj.out)); (case aL => have := HLEN.out j hj; omega); intro v2 w5 ho hb hg hat; have HV2 := Aside0.mk (Kd.R_after HV.out hg hat); clear hg hat; rw [← HM.out] at ho; have HO2 := Aside0.mk ho; have HB2 := Aside0.mk hb; clear ho hb))
          go_roundw
          case rel => exact ⟨j + 1, by omega, by go_num, HO2, HV2, HB2⟩
          case measure => simp [intOf]; omega
        · obtain rfl : j = m := by omega
          rw [HSm.out, ← HT.out] at HO
          go_wp2
          go_roundw
          case rel => exact ⟨i + 1, by omega, by go_num, HO, HBj⟩
          case measure => simp [intOf]; omega
    · obtain rfl : i = n := by omega
      rw [HA.out] at HO
      have how := Kd.own_of_R HO.out
      have hpos : (zs (sums B)).length ≠ 0 := by
        rw [zs_length, sums_len]
        have := Nat.two_pow_pos B.length
        omega
      have hsz : (zs (sums B)).length < 4611686018427387904 := by
        have h1 := (HSL.out i (Nat.le_refl i)).1
        rw [HA.out] at h1
        rw [zs_length]; omega
      have HZ2 := HZ
      clear HO HSL HST HZ HA HBI
      generalize hts : zs (sums B) = ts at *
      rcases how.2 with ⟨_, h0⟩ | ⟨g, cap2, cur, rfl, hbase, hblk, h1, h2, h3, h4⟩
      · exact absurd h0 hpos
      rw [Nat.mul_one] at h4
      have hsort := Try.slices_Sort_int g 0 cap2 ts wr (holds_of_blockG hblk h4) (Array.getElem?_eq_some_iff.1 hblk).1 hsz
      rw [HZ2.out] at hsort
      have HB5 := Aside0.mk HB.out
      have HK := Aside0.mk (show _ ∧ _ ∧ _ ∧ _ ∧ _ from ⟨hbase, hblk, h1, h2, h3⟩)
      have HTS := Aside0.mk hts
      clear how hbase hblk h1 h2 h3 h4 hsz hts
      generalize hnn : ts.length = nn at *
      have HNN := Aside0.mk hnn
      clear hnn
      go_wp2_with (go_at_call 75; refine hsort.mono ?_; rintro e w6 ⟨rfl, nq, os, rfl⟩)
      go_ret
      obtain ⟨k1, k2, k3, k4, k5⟩ := HK.out
      have how2 := ownsRow_sortedG (enc := Value.int .i64) (n := nq) (os := os) (ts := ts) HNN.out k1 k2 k3 k4 k5
      refine ⟨_, rfl, ?_, pw_below_grown HB5.out (some g) (below_size HB5.out) (grownBy_sortedG ts.toArray) (fun k hk => by injection hk with hk; omega)⟩
      rw [HTS.out]
      refine Kd.R_of_own ?_ (fun _ _ => trivial)
      rw [HNN.out]
      exact how2
end Go.Proofs.Ythjbccbaobkobaa.Ptw
