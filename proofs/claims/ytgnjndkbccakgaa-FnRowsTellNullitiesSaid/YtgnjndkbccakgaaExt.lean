/- What impl.extended computes: the program's walk, once: its loop that appends, its sort by greatest elements. -/
import Derived.Test.YtgnjndkbccakgaaRed
import Derived.Test.YtgnjndkbccakgaaShelf
import Derived.Test.YtgnjndkbccakgaaKer
import Derived.Sort.OwnSortedInts
import Derived.Shelf.SlSortCmp.Whole1
namespace Go.Proofs.Ytgnjndkbccakgaa.Ext
open Go.RowKit Go.Proofs.Ytgnjndkbccakgaa.PBase Go.Proofs.YtgnjndkbccakgaaW.PrintWords Go.Proofs.YtgnjndkbccakgaaW.PrintLast Go.Proofs.YtgnjndkbccakgaaW.PrintMore
open Go.Proofs.Ytgnjndkbccakgaa.Lin Go.Proofs.Ytgnjndkbccakgaa.Bit Go.Proofs.Ytgnjndkbccakgaa.Gra Go.Proofs.Ytgnjndkbccakgaa.Red Go.Proofs.Ytgnjndkbccakgaa.Ker Go.Sort Go.Shelf

/-! ### A row that is owned, sorted -/
section
variable {α : Type} [Inhabited α] {enc : α → Value}
theorem holds_of_blockG {w : World} {g : Nat} {cur : Array Value} {e : TypeId} {ss : List α} (hb : w.heap[g]? = some (.cells cur e (0, 0))) (ht : cur.toList.take ss.length = ss.map enc) : Holds enc w g 0 ss.toArray := by
  intro j hj
  have hj' : j < ss.length := by simpa using hj
  refine ⟨?_, by simp [World.frozen?, hb]⟩
  have h1 : (cur.toList.take ss.length)[j]? = (ss.map enc)[j]? := by rw [ht]
  rw [List.getElem?_take_of_lt hj'] at h1
  simp only [World.cell?, hb, Nat.zero_add]
  simp only [Option.isSome_none, Bool.false_eq_true, if_false]
  rw [← Array.getElem?_toList, h1]
  simp [hj']
theorem heap_sortedG {w : World} {g n : Nat} {os : Array Obj} {cur : Array Value} {e : TypeId} {fr : Nat × Nat} (d : Array α) (hb : w.heap[g]? = some (.cells cur e fr)) :
    (grow (putRow enc (Sort.ahead w n) g 0 d) os).heap[g]? = some (.cells (putCells enc 0 d cur) e fr) := by
  have hg : g < w.heap.size := (Array.getElem?_eq_some_iff.1 hb).1
  rw [heap_grow_old _ _ (by simpa using hg)]
  simp [putRow, mapBlock, Sort.ahead, Array.getElem?_modify, hb, onCells]
theorem grownBy_sortedG {w : World} {g n : Nat} {os : Array Obj} (d : Array α) : w.grownBy (grow (putRow enc (Sort.ahead w n) g 0 d) os) (some g) := by
  refine ⟨rfl, rfl, rfl, by simp, fun k hk hne => ?_⟩
  rw [heap_grow_old _ _ (by simpa using hk)]
  have : g ≠ k := fun e => hne (by rw [e])
  simp [putRow, mapBlock, Sort.ahead, Array.getElem?_modify, this]
theorem take_putCellsG (cur : Array Value) (ts : List α) (h : ts.length ≤ cur.size) : (putCells enc 0 ts.toArray cur).toList.take ts.length = ts.map enc := by
  apply List.ext_getElem?
  intro j
  by_cases hj : j < ts.length
  · rw [List.getElem?_take_of_lt hj, Array.getElem?_toList]
    simp [putCells, hj, show j < cur.size by omega]
  · rw [List.getElem?_take_eq_none (by omega), List.getElem?_eq_none (by simp; omega)]
theorem ownsRow_sortedG {w : World} {base g cap n : Nat} {e : TypeId} {os : Array Obj} {cur : Array Value} {m : Nat} {ts : List α} (hl : ts.length = m) (hbase : base ≤ g) (hb : w.heap[g]? = some (.cells cur e (0, 0)))
    (h1 : m ≤ cap) (h2 : cap ≤ maxLen) (h3 : cur.size = cap * 1) :
    (grow (putRow enc (Sort.ahead w n) g 0 ts.toArray) os).ownsRow base e 1 (.slice (some ⟨g, 0, none⟩) m cap) m (ts.map enc) :=
  ⟨by simp [hl], .inr ⟨g, cap, _, rfl, hbase, heap_sortedG _ hb, h1, h2, by simp [putCells, h3], by rw [Nat.mul_one, ← hl]; exact take_putCellsG cur ts (by omega)⟩⟩
end

theorem info_int : (Try.prog.info? 3).map (fun i => (i.zero, i.size, i.bytes)) = some (some (.int .i64 0), 1, 8) := by kernel_rfl
/-! ### The order -/
def exCf (a b : Nat) : Int := ((clN a).log2 : Int) - ((clN b).log2 : Int)
set_option maxHeartbeats 400000 in
theorem ex_cmp (a b : Nat) (W : World) : Calls Try.prog 101 #[.int .i64 (clv a), .int .i64 (clv b)] W fun e w' => e = .returned (.int .i64 (exCf a b)) ∧ ∃ q, w' = W.drewN q := by
  have h1 := fun W => top_calls (clN a) W (clN_pos a) (clN_lt a)
  have h2 := fun W => top_calls (clN b) W (clN_pos b) (clN_lt b)
  have b1 : (clN a).log2 < 62 := (Nat.log2_lt (by have := clN_pos a; omega)).2 (clN_lt a)
  have b2 : (clN b).log2 < 62 := (Nat.log2_lt (by have := clN_pos b; omega)).2 (clN_lt b)
  unfold clv exCf
  generalize (clN a).log2 = ta at *
  generalize (clN b).log2 = tb at *
  generalize clN a = x at *
  generalize clN b = y at *
  have hw : IntKind.i64.wrap ((ta : Int) - (tb : Int)) = (ta : Int) - (tb : Int) := by rw [IntKind.wrap_i64]; omega
  go_enter Try.func101, Try.ntmps101
  go_wp2_with fail
  refine (h1 _).mono ?_
  rintro e w' ⟨rfl, ⟨q, rfl⟩⟩
  go_wp2_with fail
  refine (h2 _).mono ?_
  rintro e w' ⟨rfl, ⟨q2, rfl⟩⟩
  go_wp2
  go_ret
  exact ⟨rfl, q + q2, rfl⟩
theorem ex_lt (x y : Nat) : ltOf exCf x y = decide ((clN x).log2 < (clN y).log2) := by
  unfold ltOf exCf
  exact decide_eq_decide.2 (by omega)
theorem ex_swo : SWO (ltOf exCf) where
  irrefl x := by rw [ex_lt]; simp
  trans x y z h1 h2 := by
    rw [ex_lt, decide_eq_true_eq] at *
    omega
  ntrans x y z h1 h2 := by
    rw [ex_lt, decide_eq_false_iff_not] at *
    omega

/-- The sorted list is the basis with the set more. -/
theorem ex_sorted {B : List Nat} (hB : IsB B) (hlt : ∀ b ∈ B, b < 2 ^ 62) {s : Nat} (hs : s < 2 ^ 62) (ht : red B s ≠ 0) {d' : Array Nat}
    (hp : PermIn 0 (B.map (clr (red B s)) ++ [red B s]).toArray.size (B.map (clr (red B s)) ++ [red B s]).toArray d') (hS : SortedIn (ltOf exCf) 0 (B.map (clr (red B s)) ++ [red B s]).toArray.size d') : d'.toList = putB B s ∧ ∀ x ∈ d'.toList, clN x = x := by
  have hred : red B s < 2 ^ 62 := red_lt hlt hs
  obtain ⟨h1, _, h3⟩ := hp
  have h4 : d'.toList.Perm (B.map (clr (red B s)) ++ [red B s]) := by
    have e1 : d'.extract 0 (B.map (clr (red B s)) ++ [red B s]).toArray.size = d' := by rw [← h1]; exact Array.extract_size
    have e2 : (B.map (clr (red B s)) ++ [red B s]).toArray.extract 0 (B.map (clr (red B s)) ++ [red B s]).toArray.size = (B.map (clr (red B s)) ++ [red B s]).toArray := Array.extract_size
    rw [e1, e2] at h3
    exact h3
  have hin : ∀ x ∈ d'.toList, clN x = x := fun x hx => by
    have hx2 := h4.mem_iff.1 hx
    rcases List.mem_append.1 hx2 with hx3 | hx3
    · obtain ⟨b, hb, rfl⟩ := List.mem_map.1 hx3
      have hbit := red_bit hB s b hb
      have := clr_ne (t := red B s) (hB.ne b hb) hbit
      refine clN_of (by omega) ?_
      unfold clr
      split
      · exact Nat.xor_lt_two_pow (hlt b hb) hred
      · exact hlt b hb
    · rw [List.mem_singleton.1 hx3]
      exact clN_of (by omega) hred
  refine ⟨sorted_putB hB ht h4 ?_, hin⟩
  rw [List.pairwise_iff_getElem]
  intro i j hi hj hij
  have h5 := hS i j (Nat.zero_le _) hij (by rw [← h1]; simpa using hj)
  rw [ex_lt, decide_eq_false_iff_not] at h5
  have hi' : i < d'.size := by simpa using hi
  have hj' : j < d'.size := by simpa using hj
  rw [getElem!_pos d' i hi', getElem!_pos d' j hj', hin _ (by simp), hin _ (by simp)] at h5
  simp only [Array.getElem_toList]
  omega
theorem encs_clv {l : List Nat} (h : ∀ x ∈ l, clN x = x) : l.map (fun n => Value.int .i64 (clv n)) = encs (Value.int .i64) (zs l) := by
  unfold encs zs
  rw [List.map_map]
  refine List.map_congr_left fun x hx => ?_
  show Value.int .i64 (clv x) = Value.int .i64 (Int.ofNat x)
  unfold clv
  rw [h x hx]; rfl
theorem ex_take (B : List Nat) (t i : Nat) (hi : i < B.length) : zs ((B.take (i + 1)).map (clr t)) = zs ((B.take i).map (clr t)) ++ [((clr t (B.getD i 0) : Nat) : Int)] := by
  rw [List.take_succ_eq_append_getElem hi, List.map_append, zs_append, gD_lt _ _ hi]; rfl
set_option maxRecDepth 100000 in
set_option maxHeartbeats 4000000 in
theorem extended_calls (A : Option Addr) (cap : Nat) (B : List Nat) (s : Nat) (hs : s < 2 ^ 62) (hB : IsB B) (hlt : ∀ b ∈ B, b < 2 ^ 62) (hl : B.length ≤ 1000000) (hcap : B.length ≤ cap) (w : World) (hC : Kd.C (Kd.int .i64) w A B.length (zs B)) :
    Calls Try.prog 87 #[.slice A B.length cap, .int .i64 (s : Int)] w fun e w' => ∃ v : Value, e = .returned v ∧ Below w.heap.size w w' ∧
      ((red B s = 0 ∧ v = .slice A B.length cap) ∨ (red B s ≠ 0 ∧ Kd.R (Kd.int .i64) 3 w' w.heap.size (fun _ => True) v (zs (putB B s)))) := by
  have hr := reduced_calls A cap B s hs (fun b hb => ⟨Nat.pos_of_ne_zero (hB.ne b hb), hlt b hb⟩) (by omega) w hC
  have ht62 : red B s < 2 ^ 62 := red_lt hlt hs
  by_cases h0 : red B s = 0
  · have H0 := Aside0.mk h0
    rw [h0] at hr
    clear hC
    generalize B.length = n at *
    go_enter Try.func87, Try.ntmps87
    go_wp2_with (go_at_call 94; refine hr.mono ?_; rintro e w' ⟨rfl, hb⟩)
    go_ret
    exact ⟨_, rfl, hb, .inl ⟨H0.out, rfl⟩⟩
  · have HS := Aside0.mk (fun d' => ex_sorted (d' := d') hB hlt hs h0)
    have HC := Aside0.mk hC
    have HL := Aside0.mk (ex_take B (red B s))
    have HBI : Aside0 (∀ i, i < B.length → B.getD i 0 < 2 ^ 62) := ⟨fun i hi => by rw [gD_lt _ _ hi]; exact hlt _ (List.getElem_mem hi)⟩
    have HIN : Aside0 (∀ x ∈ B.map (clr (red B s)) ++ [red B s], clN x = x) := ⟨fun x hx => by
      rcases List.mem_append.1 hx with hx3 | hx3
      · obtain ⟨b, hb, rfl⟩ := List.mem_map.1 hx3
        have hbit := red_bit hB s b hb
        have := clr_ne (t := red B s) (hB.ne b hb) hbit
        refine clN_of (by omega) ?_
        unfold clr
        split
        · exact Nat.xor_lt_two_pow (hlt b hb) ht62
        · exact hlt b hb
      · rw [List.mem_singleton.1 hx3]
        exact clN_of (by omega) ht62⟩
    have HTK : Aside0 (B.take B.length = B) := ⟨List.take_length⟩
    have ht1 : 1 ≤ red B s := by omega
    have hne : (((red B s : Nat) : Int) == 0) = false := by simp; omega
    have HT1 := fun w => top_calls (red B s) w ht1 ht62
    have HH1 := fun b w hb => has_calls b (red B s).log2 w hb
    have H0 := Aside0.mk h0
    clear hC h0 hs hB hlt
    have HLEN : ∀ i, (zs ((B.take i).map (clr (red B s)))).length ≤ 1000000 := fun i => by rw [zs_length, List.length_map, List.length_take]; omega
    generalize red B s = t at *
    generalize hn : B.length = n at *
    clear hn
    go_enter Try.func87, Try.ntmps87
    go_wp2_with (first
      | (go_at_call 94; refine hr.mono ?_; rintro e w1 ⟨rfl, hb⟩; have HB1 := Aside0.mk hb; clear hb)
      | ((with_reducible refine gate_dst (N := 14) rfl ?_); refine Kd.R_lit (Kd.int .i64) _ 3 ?hg (N := 14) ?hd (xs := ([] : List Int)) (inner := []) (ok := fun _ => True) (okp := fun _ => True) ?hr ?hp (fun _ hk => hk) trivial (Below.refl _ _) (Nat.le_refl _) (by simp) ?_; (case hd => rfl); (case hg => rfl); (case hr => first | (go_simp; done) | (go_simp; rfl)); (case hp => exact (Reps.none _ _)); intro v1 w2 ho hb2 hg_ hnew_; clear hg_ hnew_; have HO := Aside0.mk (Kd.R_lower ho (below_size HB1.out)); have HB := Aside0.mk (below_step HB1.out hb2); clear ho hb2 HB1))
    clear hr hne
    go_loopw [5, 17] (fun v s wr => ∃ i : Nat, i ≤ n ∧ s = .int .i64 i ∧ Aside0 (Kd.R (Kd.int .i64) 3 wr w.heap.size (fun _ => True) v (zs ((B.take i).map (clr t)))) ∧ Aside0 (Below w.heap.size w wr)) (fun _ s _ => n - (intOf s).toNat)
    case atStart => exact ⟨0, Nat.zero_le _, rfl, HO, HB⟩
    case round =>
      clear HO HB
      obtain ⟨i, hi, rfl, HO, HB⟩ := hrel
      by_cases hlt : i < n
      · obtain ⟨ad, e1, hci⟩ := Kd.at_int (Kd.C_below HC.out HB.out) (i : Int) (by omega) (by omega)
        subst e1
        rw [Int.toNat_natCast, rd_zs] at hci
        have hb62 := HBI.out i hlt
        have HL1 := Aside0.mk (HL.out i hlt)
        generalize B.getD i 0 = b at *
        have hq1 := fun w => HH1 b w hb62
        have hx := xorn b t (by omega) (by omega)
        cases hbt : b.testBit t.log2 with
        | true =>
          have hcl : clr t b = b ^^^ t := by unfold clr; rw [hbt]; rfl
          rw [hcl] at HL1
          rw [hbt] at hq1
          clear hcl hbt
          generalize t.log2 = tt at *
          go_wp2_with (first
            | (go_at_call 99; (with_reducible refine (HT1 _).mono ?_); rintro e w' ⟨rfl, ⟨q1, rfl⟩⟩)
            | (go_at_call 90; (with_reducible refine (hq1 _).mono ?_); rintro e w' ⟨rfl, ⟨q2, rfl⟩⟩)
            | ((with_reducible refine gate_builtin (b := .append) (xs := #[.tmp 28, .tmp 30]) rfl ?_); at_builtin; refine Kd.R_append (Kd.int .i64) (w0 := w) w.heap.size rfl (.tmp 28) (.tmp 30) 26 3 (.int .i64 0) 8 rfl Try.underlying26 info_int rfl (by decide) (by omega) _ (zs ((B.take i).map (clr t))) ((b ^^^ t : Nat) : Int) [.int .i64 ((b ^^^ t : Nat) : Int)] (fun _ => True) (fun _ => False) rfl rfl ?aP (fun _ hk => hk.elim) ?aF ?aO ?aB ?aS ?aL ?_; (case aP => exact rfl); (case aF => exact (fun _ _ => trivial)); (case aO => exact (by (with_reducible repeat (first | apply Kd.R_alloc | apply Kd.R_drewN | apply Kd.R_drew)); exact HO.out)); (case aB => exact (by repeat (first | (with_reducible first | exact HB.out | apply below_alloc | apply pw_below_drewN | apply below_drew1) | exact HB.out))); (case aS => exact (below_size (by repeat (first | (with_reducible first | exact HB.out | apply below_alloc | apply pw_below_drewN | apply below_drew1) | exact HB.out)))); (case aL => have := HLEN i; omega); intro v2 w5 ho hb hg hat; clear hg hat; have HO2 := Aside0.mk ho; have HB3 := Aside0.mk hb; clear ho hb))
          replace HO2 := HO2.out
          rw [← HL1.out] at HO2
          go_roundw
          case rel => exact ⟨i + 1, by omega, by go_num, ⟨HO2⟩, HB3⟩
          case measure => simp [intOf]; omega
        | false =>
          have hcl : clr t b = b := by unfold clr; rw [hbt]; rfl
          rw [hcl] at HL1
          rw [hbt] at hq1
          clear hcl hbt
          generalize t.log2 = tt at *
          go_wp2_with (first
            | (go_at_call 99; (with_reducible refine (HT1 _).mono ?_); rintro e w' ⟨rfl, ⟨q1, rfl⟩⟩)
            | (go_at_call 90; (with_reducible refine (hq1 _).mono ?_); rintro e w' ⟨rfl, ⟨q2, rfl⟩⟩)
            | ((with_reducible refine gate_builtin (b := .append) (xs := #[.tmp 28, .tmp 30]) rfl ?_); at_builtin; refine Kd.R_append (Kd.int .i64) (w0 := w) w.heap.size rfl (.tmp 28) (.tmp 30) 26 3 (.int .i64 0) 8 rfl Try.underlying26 info_int rfl (by decide) (by omega) _ (zs ((B.take i).map (clr t))) ((b : Nat) : Int) [.int .i64 ((b : Nat) : Int)] (fun _ => True) (fun _ => False) rfl rfl ?aP (fun _ hk => hk.elim) ?aF ?aO ?aB ?aS ?aL ?_; (case aP => exact rfl); (case aF => exact (fun _ _ => trivial)); (case aO => exact (by (with_reducible repeat (first | apply Kd.R_alloc | apply Kd.R_drewN | apply Kd.R_drew)); exact HO.out)); (case aB => exact (by repeat (first | (with_reducible first | exact HB.out | apply below_alloc | apply pw_below_drewN | apply below_drew1) | exact HB.out))); (case aS => exact (below_size (by repeat (first | (with_reducible first | exact HB.out | apply below_alloc | apply pw_below_drewN | apply below_drew1) | exact HB.out)))); (case aL => have := HLEN i; omega); intro v2 w5 ho hb hg hat; clear hg hat; have HO2 := Aside0.mk ho; have HB3 := Aside0.mk hb; clear ho hb))
          replace HO2 := HO2.out
          rw [← HL1.out] at HO2
          go_roundw
          case rel => exact ⟨i + 1, by omega, by go_num, ⟨HO2⟩, HB3⟩
          case measure => simp [intOf]; omega
      · obtain rfl : i = n := by omega
        rw [HTK.out] at HO
        have HLENn : (zs (B.map (clr t))).length ≤ 1000000 := by have := HLEN i; rwa [HTK.out] at this
        have HLs : Aside0 ((zs (B.map (clr t)) ++ [((t : Nat) : Int)]) = zs (B.map (clr t) ++ [t])) := ⟨by rw [zs_append]; rfl⟩
        clear HL HBI HC HTK HLEN
        go_wp2_with (first
          | ((with_reducible refine gate_builtin (b := .append) (xs := #[.tmp 33, .tmp 35]) rfl ?_); at_builtin; refine Kd.R_append (Kd.int .i64) (w0 := w) w.heap.size rfl (.tmp 33) (.tmp 35) 26 3 (.int .i64 0) 8 rfl Try.underlying26 info_int rfl (by decide) (by omega) _ (zs (B.map (clr t))) ((t : Nat) : Int) [.int .i64 ((t : Nat) : Int)] (fun _ => True) (fun _ => False) rfl rfl ?aP (fun _ hk => hk.elim) ?aF ?aO ?aB ?aS ?aL ?_; (case aP => exact rfl); (case aF => exact (fun _ _ => trivial)); (case aO => exact (by (with_reducible repeat (first | apply Kd.R_alloc | apply Kd.R_drewN | apply Kd.R_drew)); exact HO.out)); (case aB => exact (by repeat (first | (with_reducible first | exact HB.out | apply below_alloc | apply pw_below_drewN | apply below_drew1) | exact HB.out))); (case aS => exact (below_size (by repeat (first | (with_reducible first | exact HB.out | apply below_alloc | apply pw_below_drewN | apply below_drew1) | exact HB.out)))); (case aL => have := HLENn; omega); intro v2 w5 ho hb hg hat; clear hg hat))
        rw [HLs.out] at ho
        have how := Kd.own_of_R ho
        rw [zs_length, ← encs_clv HIN.out] at how
        have hsz : (B.map (clr t) ++ [t]).length < 4611686018427387904 := by have h1 := HLENn; rw [zs_length] at h1; rw [List.length_append, List.length_singleton]; omega
        have hpos : (B.map (clr t) ++ [t]).length ≠ 0 := by rw [List.length_append, List.length_singleton]; omega
        have HS2 := HS
        have HIN2 := HIN
        clear HS HIN ho HO HLs HLENn
        generalize B.map (clr t) ++ [t] = ts at *
        rcases how.2 with ⟨_, h0⟩ | ⟨g, cap2, cur, rfl, hbase, hblk, h1, h2, h3, h4⟩
        · exact absurd h0 hpos
        rw [Nat.mul_one] at h4
        have hsort := Try.slices_SortFunc (fun n => Value.int .i64 (clv n)) (fun _ => rfl) exCf ex_swo 101 #[] g 0 cap2 ts.toArray w5 (enters_of Try.func101 (by kernel_rfl) rfl) (CmpReads.lays fun _ _ _ _ x y => ex_cmp x y _) (holds_of_blockG hblk h4) (Array.getElem?_eq_some_iff.1 hblk).1 (by simpa using hsz)
        have HB5 := Aside0.mk hb
        have HK := Aside0.mk (show _ ∧ _ ∧ _ ∧ _ ∧ _ from ⟨hbase, hblk, h1, h2, h3⟩)
        clear how hb hbase hblk h1 h2 h3 h4 hsz
        have hts : ts.toArray.size = ts.length := by simp
        rw [hts] at hsort
        rw [hts] at HS2
        generalize hnn : ts.length = nn at *
        clear hts
        go_wp2_with (go_at_call 100; refine hsort.mono ?_; rintro e w6 ⟨rfl, d', nq, os, hp, hs, rfl⟩)
        go_ret
        obtain ⟨hd, hperm⟩ := HS2.out d' hp hs
        have hl2 : d'.toList.length = nn := by
          have := hp.1
          simp only [Array.length_toList]
          rw [this]; simpa using hnn
        obtain ⟨k1, k2, k3, k4, k5⟩ := HK.out
        have how2 := ownsRow_sortedG (enc := fun n => Value.int .i64 (clv n)) (n := nq) (os := os) (ts := d'.toList) hl2 k1 k2 k3 k4 k5
        rw [encs_clv hperm] at how2
        refine ⟨_, rfl, pw_below_grown HB5.out (some g) (below_size HB5.out) (grownBy_sortedG d') (fun k hk => by injection hk with hk; omega), .inr ⟨H0.out, ?_⟩⟩
        rw [← hd]
        refine Kd.R_of_own ?_ (fun _ _ => trivial)
        rw [zs_length, hl2]
        exact how2
end Go.Proofs.Ytgnjndkbccakgaa.Ext
