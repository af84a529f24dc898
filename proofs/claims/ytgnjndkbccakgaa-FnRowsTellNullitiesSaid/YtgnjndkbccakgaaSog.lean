/- What the solver of a graph computes: the program's walk, once: solverOf, solve. -/
import Derived.Test.YtgnjndkbccakgaaSol
namespace Go.Proofs.Ytgnjndkbccakgaa.Sog
open Go.RowKit Go.Proofs.Ytgnjndkbccakgaa.PBase Go.Proofs.YtgnjndkbccakgaaW.PrintWords Go.Proofs.YtgnjndkbccakgaaW.PrintLast Go.Proofs.YtgnjndkbccakgaaW.PrintMore
open Go.Proofs.Ytgnjndkbccakgaa.Lin Go.Proofs.Ytgnjndkbccakgaa.Bit Go.Proofs.Ytgnjndkbccakgaa.Gra Go.Proofs.Ytgnjndkbccakgaa.Red Go.Proofs.Ytgnjndkbccakgaa.Ker Go.Proofs.Ytgnjndkbccakgaa.Ext Go.Proofs.Ytgnjndkbccakgaa.Rea Go.Proofs.Ytgnjndkbccakgaa.Sol

set_option maxRecDepth 100000 in
set_option maxHeartbeats 4000000 in
/-- solve, called: whether lights are solved, and by which presses. -/
theorem solve_calls {n0 S : Nat} {pv qv iv : Value} {es : List Nat} {P : List (Nat × Nat)} {Q I : List Nat} (he : ∀ e ∈ es, e < 2 ^ 16) (hn : es.length ≤ 16) (hk : Know es P Q I) (l : Nat) (hl : l < 2 ^ 62) (w : World) (hs : Sv w n0 S pv qv iv P Q I) :
    Calls Try.prog 67 #[.pointer (some ⟨S, 0, none⟩), .int .i64 (l : Int)] w fun e w' => ∃ l' p' : Nat, e = .returned (.tuple #[.int .i64 ((red Q p' : Nat) : Int), .bool ((l' : Int) == 0)]) ∧ Reached P l l' p' ∧ Below w.heap.size w w' := by
  obtain ⟨hp, hq, hi⟩ := hk.lt he hn
  have hpl := hk.pl
  have hql := hk.ql
  have hqb := hk.inv.isB
  obtain ⟨Ap, cp, hpv, hcp, hpC⟩ := Kd.R_reads hs.p
  rw [zsp_length] at hpv hcp hpC
  have hreach := reach_calls S Ap cp P l hl hp (by omega) hcp w (hs.c0.trans (by rw [hpv])) hpC
  have HS := Aside0.mk hs
  clear hpC hs hk he
  go_enter Try.func67, Try.ntmps67
  go_wp2_with fail
  refine hreach.mono ?_
  rintro e w1 ⟨l', p', rfl, ⟨hre, hl62, hp62⟩, hb⟩
  have HSV := Aside0.mk (HS.out.below hb)
  obtain ⟨Aq, cq, hqv, hcq, hqC⟩ := Kd.R_reads HSV.out.q
  rw [zs_length] at hqv hcq hqC
  have hred := reduced_calls Aq cq Q p' hp62 (fun b hb => ⟨Nat.pos_of_ne_zero (hqb.ne b hb), hq b hb⟩) (by omega) w1 hqC
  have hc1 : w1.cell? ⟨S, 1, none⟩ = some (.slice Aq Q.length cq) := HSV.out.c1.trans (by rw [hqv])
  have HRE := Aside0.mk hre
  have HB := Aside0.mk hb
  clear hreach hqC hre hb
  go_wp2_with fail
  refine hred.mono ?_
  rintro e w2 ⟨rfl, hb2⟩
  go_wp2
  go_ret2
  exact ⟨l', p', rfl, HRE.out, below_then HB.out HB.out.size hb2⟩

/-! ### The solver of a graph -/
def tgls (m : List Nat) (own : Bool) : List Nat := (List.range m.length).map (tgl m own)
theorem tgls_length (m : List Nat) (own : Bool) : (tgls m own).length = m.length := by simp [tgls]
theorem tgls_get (m : List Nat) (own : Bool) {i : Nat} (hi : i < m.length) : (tgls m own).getD i 0 = tgl m own i := by
  rw [gD_lt _ _ (by rw [tgls_length]; exact hi)]
  simp [tgls]
theorem tgls_lt {m : List Nat} (h : GoodG m) (own : Bool) : ∀ e ∈ tgls m own, e < 2 ^ m.length := fun e he => by
  obtain ⟨i, hi, rfl⟩ := List.mem_map.1 he
  exact tgl_lt h own (List.mem_range.1 hi)
theorem tgls_lt16 {m : List Nat} (h : GoodG m) (own : Bool) : ∀ e ∈ tgls m own, e < 2 ^ 16 := fun e he => Nat.lt_of_lt_of_le (tgls_lt h own e he) (pow16 h)
theorem tog_f (m : List Nat) (hg : GoodG m) (own : Bool) (i : Nat) (hi : i < m.length) : impl_Graph_toggles.f (zs m) own (i : Int) = some ((tgl m own i : Nat) : Int) := by
  have h1 := hg.bound i
  have h2 := hg.le
  have h3 : 2 ^ i < 2 ^ 63 := pow63 (by omega)
  unfold impl_Graph_toggles.f tgl
  cases own with
  | true => rw [if_pos rfl, if_pos (Int.natCast_nonneg _), if_pos (by rw [zs_length]; omega), rd_nth, shl1 i (by omega), orn _ _ (by omega) h3]; rfl
  | false => rw [if_neg (by decide), if_pos (Int.natCast_nonneg _), if_pos (by rw [zs_length]; omega), rd_nth]; rfl

set_option maxRecDepth 100000 in
set_option maxHeartbeats 8000000 in
/-- solverOf, called: a solver that knows the graph's effects. -/
theorem solverOf_calls (A : Option Addr) (c : Nat) (m : List Nat) (own : Bool) (hg : GoodG m) (hc : m.length ≤ c) (w : World) (hC : ki.C w A m.length (zs m)) :
    Calls Try.prog 66 #[.agg #[.slice A m.length c, .bool own]] w fun e w' => ∃ S pv qv iv P Q I, e = .returned (.pointer (some ⟨S, 0, none⟩)) ∧ Sv w' w.heap.size S pv qv iv P Q I ∧ Know (tgls m own) P Q I ∧ Below w.heap.size w w' := by
  have hu := Try.underlying36
  have h16 := hg.le
  have HTG := Aside0.mk (fun (i : Nat) (hi : i < m.length) (W : World) (h : Below w.heap.size w W) => by
    have := impl_Graph_toggles.calls A c (zs m) own (i : Int) _ W (by rw [zs_length]; exact Kd.C_below hC h) (by rw [zs_length]; exact hc) (tog_f m hg own i hi)
    rwa [zs_length] at this)
  have HTK := Aside0.mk (fun (i : Nat) (hi : i < m.length) => show zs ((tgls m own).take (i + 1)) = zs ((tgls m own).take i) ++ [((tgl m own i : Nat) : Int)] from by
    rw [List.take_succ_eq_append_getElem (by rw [tgls_length]; exact hi), zs_append, ← gD_lt _ 0 (by rw [tgls_length]; exact hi), tgls_get m own hi]; rfl)
  have HLN : Aside0 (∀ i, (zs ((tgls m own).take i)).length ≤ 16) := ⟨fun i => by rw [zs_length, List.length_take, tgls_length]; omega⟩
  have HAL : Aside0 ((tgls m own).take m.length = tgls m own) := ⟨by rw [← tgls_length m own]; exact List.take_length⟩
  have HSF := Aside0.mk (fun (A : Option Addr) (cap : Nat) (W : World) (hcap : m.length ≤ cap) (hC : ki.C W A m.length (zs (tgls m own))) => by
    have := solverFor_calls A cap (tgls m own) (tgls_lt16 hg own) (by rw [tgls_length]; exact h16) (by rw [tgls_length]; exact hcap) W (by rw [tgls_length]; exact hC)
    rwa [tgls_length] at this)
  have HLM : Aside0 ((zs (tgls m own)).length = m.length) := ⟨by rw [zs_length, tgls_length]⟩
  clear hC hg
  generalize m.length = n at *
  go_enter Try.func66, Try.ntmps66
  have HBB : Aside0 (Below w.heap.size w (w.alloc (.cells #[.slice A n c, .bool own] 36))) := ⟨below_alloc (Below.refl _ _) _⟩
  have HBK : Aside0 ((w.alloc (.cells #[.slice A n c, .bool own] 36)).heap[w.heap.size]? = some (.cells #[.slice A n c, .bool own] 36 (0, 0))) := ⟨blk_new _ _⟩
  go_wp2_with (first
    | ((with_reducible refine gate_dst (N := 5) rfl ?_); refine Kd.R_lit ki _ 3 ?hg (N := 5) ?hd (xs := ([] : List Int)) (inner := []) (ok := fun _ => True) (okp := fun _ => True) ?hr ?hp (fun _ hk => hk) trivial (Below.refl _ _) (Nat.le_refl _) (by simp) ?_; (case hd => rfl); (case hg => rfl); (case hr => first | (go_simp; done) | (go_simp; rfl)); (case hp => exact (Reps.none _ _)); intro v1 w2 ho hb2 hg_ hnew_; clear hg_ hnew_; have HO := Aside0.mk (Kd.R_lower ho (below_size HBB.out)); have HB := Aside0.mk (below_step HBB.out hb2); have HK := Aside0.mk (blk_below HBK.out hb2); have hcz0 : w2.cell? ⟨w.heap.size, 0, none⟩ = some (.slice A n c) := (blk_cell HK.out 0).trans rfl; clear ho hb2))
  clear hcz0
  go_loopw [3, 9] (fun v s wr => ∃ i : Nat, i ≤ n ∧ s = .int .i64 i ∧ Aside0 (ki.R 3 wr w.heap.size (fun _ => True) v (zs ((tgls m own).take i))) ∧ Aside0 (wr.heap[w.heap.size]? = some (.cells #[.slice A n c, .bool own] 36 (0, 0))) ∧ Aside0 (Below w.heap.size w wr)) (fun _ s _ => n - (intOf s).toNat)
  case atStart => exact ⟨0, Nat.zero_le _, rfl, HO, HK, HB⟩
  case round =>
    clear HO HK HB
    obtain ⟨i, hi, rfl, HO, HK, HB⟩ := hrel
    by_cases hlt : i < n
    · have htog := HTG.out i hlt wr HB.out
      have hcz0 : wr.cell? ⟨w.heap.size, 0, none⟩ = some (.slice A n c) := (blk_cell HK.out 0).trans rfl
      have hcz1 : wr.cell? ⟨w.heap.size, 1, none⟩ = some (.bool own) := (blk_cell HK.out 1).trans rfl
      have HL1 := Aside0.mk (HTK.out i hlt)
      generalize tgl m own i = t at *
      go_wp2_with (first
        | (go_at_call 91; refine htog.mono ?_; rintro e w3 ⟨rfl, hb3⟩; have HO3 := Aside0.mk (Kd.R_below HO.out hb3); have HK3 := Aside0.mk (blk_below HK.out hb3); have HB3 := Aside0.mk (below_step HB.out hb3); clear hb3 hcz0 hcz1)
        | ((with_reducible refine gate_builtin (b := .append) (xs := #[.tmp 12, .tmp 16]) rfl ?_); at_builtin; refine Kd.R_append ki (w0 := w) w.heap.size rfl (.tmp 12) (.tmp 16) 26 3 (.int .i64 0) 8 rfl Try.underlying26 info_int rfl (by decide) (by omega) _ (zs ((tgls m own).take i)) ((t : Nat) : Int) [.int .i64 ((t : Nat) : Int)] (fun _ => True) (fun _ => False) rfl rfl ?aP (fun _ hk => hk.elim) ?aF ?aO ?aB ?aS ?aL ?_; (case aP => exact rfl); (case aF => exact (fun _ _ => trivial)); (case aO => exact HO3.out); (case aB => exact HB3.out); (case aS => exact (below_size HB3.out)); (case aL => have := HLN.out i; omega); intro v2 w5 ho hb hg hat; clear hat; rw [← HL1.out] at ho; have HO4 := Aside0.mk ho; have HK4 := Aside0.mk (blk_grown HK3.out hg (Kd.R_ne HO3.out HK3.out (by decide))); have HB4 := Aside0.mk hb; clear ho hb hg))
      go_roundw
      case rel => exact ⟨i + 1, by omega, by go_num, HO4, HK4, HB4⟩
      case measure => simp [intOf]; omega
    · obtain rfl : i = n := by omega
      rw [HAL.out] at HO
      obtain ⟨A', c', hv, hcc, hCC⟩ := Kd.R_reads HO.out
      subst hv
      rw [HLM.out] at *
      have hsf := HSF.out A' c' wr hcc hCC
      have HB5 := Aside0.mk HB.out
      clear hCC HO HK HB HTG HTK HSF HAL HLN
      go_wp2_with fail
      refine hsf.mono ?_
      rintro e w6 ⟨S, pv, qv, iv, P, Q, I, rfl, hsv, hk, hb⟩
      have hsv2 : Sv w6 w.heap.size S pv qv iv P Q I := ⟨hsv.blk, Kd.R_lower hsv.p HB5.out.size, Kd.R_lower hsv.q HB5.out.size, Kd.R_lower hsv.i HB5.out.size⟩
      have HX := Aside0.mk (And.intro hsv2 (And.intro hk (below_then HB5.out HB5.out.size hb)))
      clear hsv hsv2 hk hb hsf
      go_wp2
      go_ret
      exact ⟨S, pv, qv, iv, P, Q, I, rfl, HX.out⟩
end Go.Proofs.Ytgnjndkbccakgaa.Sog
