-- WRITTEN BY xprint.py, a program of this session, which runs the kit's print over functions with given contracts
import Derived.Test.YthjbccbaobkobaaPFnExactQuietRowsx0
import Derived.Test.YthjbccbaobkobaaPFnExactQuietRowsx1
namespace Go.Proofs.Ythjbccbaobkobaa.PFnExactQuietRows
open Go.RowKit Go.Proofs.YthjbccbaobkobaaW.PrintWords Go.Proofs.YthjbccbaobkobaaW.PrintLast Go.Proofs.YthjbccbaobkobaaW.PrintMore
attribute [local go_sem] max2_int min2_int max_two min_two max_three min_three max_four min_four   -- for this text's walks alone
set_option linter.unusedVariables false
set_option linter.unusedSimpArgs false

/-! ### impl_QuietRows: function 16 -/
section
open Go.Proofs.Ythjbccbaobkobaa.Bit Go.Proofs.Ythjbccbaobkobaa.Gra Go.Proofs.Ythjbccbaobkobaa.Row Go.Proofs.Ythjbccbaobkobaa.Lin
/-- Columns, a first row and a bound of which quiet rows are told. -/
def qrOk (c first most : Int) : Bool := (decide (1 ≤ c ∧ c ≤ 8) && decide (0 ≤ first ∧ first ≤ ((2 ^ c.toNat - 1 : Nat) : Int))) && (decide (first ≠ 0) && decide (0 ≤ most ∧ most ≤ 200))
/-- The quiet rows below a bound. -/
def qrs (c : Nat) (own : Bool) (f : Nat) : Nat → List Nat
  | 0 => []
  | k + 1 => if 1 ≤ k ∧ (cr c own 0 f k).2 = 0 then qrs c own f k ++ [k] else qrs c own f k
theorem qrs_len (c : Nat) (own : Bool) (f : Nat) : ∀ k, (qrs c own f k).length ≤ k
  | 0 => Nat.le_refl _
  | k + 1 => by
    have := qrs_len c own f k
    unfold qrs
    split
    · rw [List.length_append, List.length_singleton]; omega
    · omega
def impl_QuietRows.f (a0 : Int) (a1 : Bool) (a2 : Int) (a3 : Int) : Option (List Int × Bool) := some (if qrOk a0 a2 a3 = true then (zs (qrs a0.toNat a1 a2.toNat (a3.toNat + 1)), true) else ([], false))
theorem qr_in (a b c : Int) (w : World) : Calls Try.prog 50 #[.int .i64 a, .int .i64 b, .int .i64 c] w fun e w' => e = .returned (.bool (decide (b ≤ a ∧ a ≤ c))) ∧ Drawn0 w w' := by
  refine impl_in.calls a b c _ w ?_
  unfold impl_in.f
  split
  · rename_i h; simp [h]
  · rename_i h; simp [h]
theorem qr_info : (Try.prog.info? 3).map (fun i => (i.zero, i.size, i.bytes)) = some (some (.int .i64 0), 1, 8) := by kernel_rfl
/-- What the rounds keep: the box of the bound, the box of the list, the list. -/
def QrInv (Bm Bo n0 nB : Nat) (w0 : World) (most : Int) (l : List Nat) (W : World) : Prop :=
  W.cell? ⟨Bm, 0, none⟩ = some (.int .i64 most) ∧ (∃ v, W.heap[Bo]? = some (.cells #[v] 22 (0, 0)) ∧ Kd.R (Kd.int .i64) 3 W n0 (fun _ => True) v (zs l)) ∧ Below nB w0 W
theorem QrInv.drew {Bm Bo n0 nB : Nat} {w0 : World} {most : Int} {l : List Nat} {W : World} (h : QrInv Bm Bo n0 nB w0 most l W) (q : Nat) : QrInv Bm Bo n0 nB w0 most l (W.drewN q) := by
  obtain ⟨h1, ⟨v, h2, h3⟩, h4⟩ := h
  exact ⟨h1, ⟨v, h2, Kd.R_drewN h3 q⟩, pw_below_drewN h4 q⟩
set_option maxRecDepth 100000 in
set_option maxHeartbeats 2000000 in
/-- The closure, at a row that is none to be told. -/
theorem qr_no (Bm Bo n0 nB : Nat) (w0 : World) (most : Int) (l : List Nat) (k b x : Nat) (hno : ¬ ((1 ≤ (k : Int) ∧ (k : Int) ≤ most) ∧ x = 0)) (W : World) (h : QrInv Bm Bo n0 nB w0 most l W) (r : Bool) (hr : decide ((k : Int) < most) = r) :
    Calls Try.prog 52 #[.int .i64 (k : Int), .int .i64 (b : Int), .int .i64 (x : Int), .pointer (some ⟨Bm, 0, none⟩), .pointer (some ⟨Bo, 0, none⟩)] W fun e w' => e = .returned (.bool r) ∧ QrInv Bm Bo n0 nB w0 most l w' := by
  have h1 := h.1
  have HI := Aside0.mk h
  have hin := qr_in (k : Int) 1 most
  have HR := Aside0.mk hr
  by_cases hi : 1 ≤ (k : Int) ∧ (k : Int) ≤ most
  · have hx : ((x : Int) == 0) = false := by rw [beq_eq_false_iff_ne]; exact fun e => hno ⟨hi, by omega⟩
    rw [decide_eq_true hi] at hin
    clear hno h hi hr
    go_enter Try.func52, Try.ntmps52
    go_wp2_with (go_at_call 50; refine (hin _).mono ?_; rintro e w' ⟨rfl, ⟨q, rfl⟩⟩)
    go_ret
    exact ⟨by rw [← HR.out]; rfl, HI.out.drew _⟩
  · rw [decide_eq_false hi] at hin
    clear hno h hi hr
    go_enter Try.func52, Try.ntmps52
    go_wp2_with (go_at_call 50; refine (hin _).mono ?_; rintro e w' ⟨rfl, ⟨q, rfl⟩⟩)
    go_ret
    exact ⟨by rw [← HR.out]; rfl, HI.out.drew _⟩
set_option maxRecDepth 100000 in
set_option maxHeartbeats 2000000 in
/-- The closure, at a quiet row. -/
theorem qr_yes (Bm Bo n0 nB : Nat) (hbm : Bm < n0) (hbo : n0 ≤ Bo) (hnB : nB ≤ Bo) (hn : nB ≤ n0) (w0 : World) (most : Int) (l : List Nat) (hl : l.length ≤ 1000) (k b : Nat) (hi : 1 ≤ (k : Int) ∧ (k : Int) ≤ most) (W : World) (h : QrInv Bm Bo n0 nB w0 most l W) (r : Bool) (hr : decide ((k : Int) < most) = r) :
    Calls Try.prog 52 #[.int .i64 (k : Int), .int .i64 (b : Int), .int .i64 ((0 : Nat) : Int), .pointer (some ⟨Bm, 0, none⟩), .pointer (some ⟨Bo, 0, none⟩)] W fun e w' => e = .returned (.bool r) ∧ QrInv Bm Bo n0 nB w0 most (l ++ [k]) w' := by
  obtain ⟨h1, ⟨v, h2, h3⟩, h4⟩ := h
  have hin := qr_in (k : Int) 1 most
  rw [decide_eq_true hi] at hin
  have HR := Aside0.mk hr
  have hlt : Bm < W.heap.size := World.block_lt_of_cell? W _ h1
  have HO := Aside0.mk h3
  have HB := Aside0.mk h4
  have HK := Aside0.mk h2
  have H1 := Aside0.mk h1
  have hsz : n0 ≤ W.heap.size := Nat.le_trans hbo (Nat.le_of_lt (blk_lt h2))
  have hc : W.cell? ⟨Bo, 0, none⟩ = some v := (blk_cell h2 0).trans rfl
  have hz : zs (l ++ [k]) = zs l ++ [(k : Int)] := by rw [zs_append]; rfl
  have HZ := Aside0.mk hz
  have hzl : (zs l).length ≤ 1000 := by rw [zs_length]; exact hl
  have hty : (22 : Nat) ≠ 3 := by decide
  clear h2 h3 h4 hr hz
  obtain ⟨A0, c0, rfl⟩ := Kd.R_slice HO.out
  go_enter Try.func52, Try.ntmps52
  go_wp2_with (first
    | (go_at_call 50; refine (hin _).mono ?_; rintro e w' ⟨rfl, ⟨q, rfl⟩⟩)
    | ((with_reducible refine gate_builtin (b := .append) (xs := #[.tmp 16, .tmp 18]) rfl ?_); at_builtin; refine Kd.R_append (Kd.int .i64) (w0 := W) n0 rfl (.tmp 16) (.tmp 18) 22 3 (.int .i64 0) 8 rfl Try.underlying22 qr_info rfl (by decide) (by omega) _ (zs l) ((k : Nat) : Int) [.int .i64 ((k : Nat) : Int)] (fun _ => True) (fun _ => False) rfl rfl ?aP (fun _ hk => hk.elim) ?aF ?aO ?aB ?aS ?aL ?_; (case aP => exact rfl); (case aF => exact (fun _ _ => trivial)); (case aO => exact Kd.R_drewN HO.out _); (case aB => exact pw_below_drewN (Below.refl _ _) _); (case aS => exact hsz); (case aL => omega); intro v1 w1 ho hb hg hat; clear hat; rw [← HZ.out] at ho; have HO2 := Aside0.mk ho; have HK2 := Aside0.mk (blk_grown (blk_drewN HK.out _) hg (Kd.R_ne HO.out HK.out (Ne.symm hty))); have H12 := Aside0.mk (hg.cell (a := ⟨Bm, 0, none⟩) H1.out (fun e => by have : n0 ≤ Bm := Kd.R_base HO.out _ e.symm; omega)); have HB2 := Aside0.mk (HB.out.trans (hb.mono hn)); obtain ⟨A1, c1, rfl⟩ := Kd.R_slice ho; have hcz := (blk_cell HK2.out 0).trans rfl; have hcf := blk_frozen HK2.out 0; have hbm2 : w1.cell? ⟨Bm, 0, none⟩ = some (.int .i64 most) := H12.out; clear ho hb hg))
  go_ret
  refine ⟨by rw [← HR.out]; rfl, (World.cell?_setCell_far w1 ⟨Bo, 0, none⟩ ⟨Bm, 0, none⟩ _ (by simp; omega)).trans H12.out, ⟨_, blk_put HK2.out 0 _ rfl, Kd.R_set HO2.out HK2.out (by decide) 0 _⟩, HB2.out.setCell (p := ⟨Bo, 0, none⟩) hnB _⟩
theorem qr_step (c : Nat) (own : Bool) (f : Nat) (most : Int) (Bm Bo n0 nB : Nat) (hbm : Bm < n0) (hbo : n0 ≤ Bo) (hnB : nB ≤ Bo) (hn : nB ≤ n0) (w0 : World) (k : Nat) (hk : (k : Int) ≤ most) (hk2 : k ≤ 1000) (r : Bool) (hr : decide ((k : Int) < most) = r) (W : World) (h : QrInv Bm Bo n0 nB w0 most (qrs c own f k) W) :
    Calls Try.prog 52 #[.int .i64 (k : Int), .int .i64 ((cr c own 0 f k).1 : Nat), .int .i64 ((cr c own 0 f k).2 : Nat), .pointer (some ⟨Bm, 0, none⟩), .pointer (some ⟨Bo, 0, none⟩)] W fun e w' => e = .returned (.bool r) ∧ QrInv Bm Bo n0 nB w0 most (qrs c own f (k + 1)) w' := by
  have hl := qrs_len c own f k
  have hs : qrs c own f (k + 1) = if 1 ≤ k ∧ (cr c own 0 f k).2 = 0 then qrs c own f k ++ [k] else qrs c own f k := rfl
  by_cases hc : 1 ≤ k ∧ (cr c own 0 f k).2 = 0
  · rw [hs, if_pos hc, hc.2]
    exact qr_yes Bm Bo n0 nB hbm hbo hnB hn w0 most _ (by omega) k _ ⟨by omega, hk⟩ W h r hr
  · rw [hs, if_neg hc]
    exact qr_no Bm Bo n0 nB w0 most _ k _ _ (fun e => hc ⟨by omega, e.2⟩) W h r hr
theorem qr_one {W : World} {b : Nat} {x : Int} (h : W.cell? ⟨b, 0, none⟩ = some (.int .i64 x)) : Kd.C (Kd.int .i64) W (some ⟨b, 0, none⟩) [x].length [x] :=
  Kd.C_of_reads (d := (0 : Int)) (h1 := fun _ => rfl) ⟨rfl, by simp, fun _ => ⟨_, rfl, fun j hj => by
    have : j = 0 := by simp at hj; omega
    subst this
    exact h⟩⟩
set_option maxRecDepth 100000 in
set_option maxHeartbeats 2000000 in
theorem impl_QuietRows.calls (a0 : Int) (a1 : Bool) (a2 : Int) (a3 : Int) (r1 : List Int) (r2 : Bool) (w : World) (h : impl_QuietRows.f a0 a1 a2 a3 = some (r1, r2)) :
    Calls Try.prog 16 #[.int .i64 a0, .bool a1, .int .i64 a2, .int .i64 a3] w fun e w' => ∃ v0_ : Value, e = .returned (.tuple #[v0_, .bool r2]) ∧ Kd.R (Kd.int .i64) 3 w' w.heap.size (fun _ => True) v0_ r1 ∧ Below w.heap.size w w' := by
  have hh := Option.some.inj h
  clear h
  have hwd := impl_isWide.calls a0 (some ⟨w.heap.size + 1, 0, none⟩) 1 [a2] _ ((w.alloc (.cells #[.int .i64 a3] 3)).alloc (.cells #[.int .i64 a2] 3)) (qr_one (by simp)) (by simp) rfl
  have hE : (decide (1 ≤ a0 ∧ a0 ≤ 8) && !([a2].any (noRow a0.toNat))) = (decide (1 ≤ a0 ∧ a0 ≤ 8) && decide (0 ≤ a2 ∧ a2 ≤ ((2 ^ a0.toNat - 1 : Nat) : Int))) := by
    unfold noRow
    simp [List.any]
  rw [hE] at hwd
  have hl1 : [a2].length = 1 := rfl
  rw [hl1] at hwd
  clear hE hl1
  have hin := qr_in a3 0 200
  cases hok : (decide (1 ≤ a0 ∧ a0 ≤ 8) && decide (0 ≤ a2 ∧ a2 ≤ ((2 ^ a0.toNat - 1 : Nat) : Int))) with
  | false =>
    rw [if_neg (by unfold qrOk; rw [hok, Bool.false_and]; decide)] at hh
    obtain ⟨rfl, rfl⟩ := Prod.mk.injEq .. ▸ hh
    rw [hok] at hwd
    clear hok hh
    go_enter Try.func16, Try.ntmps16
    go_wp2_with fail
    refine hwd.mono ?_
    rintro e w' ⟨rfl, hb⟩
    go_wp2
    go_ret2
    exact ⟨_, rfl, Kd.R_nil _ _ _ _ _, below_then (((Below.refl _ w).alloc (Nat.le_refl _) _).alloc (by simp) _) (by simp; omega) hb⟩
  | true =>
    rw [hok] at hwd
    by_cases h0 : a2 = 0
    · have h01 : (a2 == 0) = true := by rw [beq_iff_eq]; exact h0
      rw [if_neg (by unfold qrOk; rw [hok, decide_eq_false (by simpa using h0), Bool.false_and, Bool.and_false]; decide)] at hh
      obtain ⟨rfl, rfl⟩ := Prod.mk.injEq .. ▸ hh
      clear hok hh h0
      go_enter Try.func16, Try.ntmps16
      go_wp2_with fail
      refine hwd.mono ?_
      rintro e w' ⟨rfl, hb⟩
      go_wp2
      go_ret2
      exact ⟨_, rfl, Kd.R_nil _ _ _ _ _, below_then (((Below.refl _ w).alloc (Nat.le_refl _) _).alloc (by simp) _) (by simp; omega) hb⟩
    · have h01 : (a2 == 0) = false := by rw [beq_eq_false_iff_ne]; exact h0
      by_cases hm : 0 ≤ a3 ∧ a3 ≤ 200
      · rw [if_pos (by unfold qrOk; rw [hok, decide_eq_true (show a2 ≠ 0 from h0), decide_eq_true hm]; rfl)] at hh
        obtain ⟨rfl, rfl⟩ := Prod.mk.injEq .. ▸ hh
        rw [decide_eq_true hm] at hin
        simp only [Bool.and_eq_true, decide_eq_true_eq] at hok
        obtain ⟨⟨hc1, hc2⟩, hf1, hf2⟩ := hok
        obtain ⟨c, rfl⟩ := Int.eq_ofNat_of_zero_le (show 0 ≤ a0 by omega)
        obtain ⟨f, rfl⟩ := Int.eq_ofNat_of_zero_le hf1
        obtain ⟨K, rfl⟩ := Int.eq_ofNat_of_zero_le hm.1
        rw [Int.toNat_natCast] at hf2
        simp only [Int.toNat_natCast]
        have hq := Nat.two_pow_pos c
        have hf : f < 2 ^ c := by omega
        have hrun := fun (Bo : Nat) (hBo : w.heap.size + 1 ≤ Bo) => rowsBehind_run c (by omega) a1 f hf 52 #[.pointer (some ⟨w.heap.size, 0, none⟩), .pointer (some ⟨Bo, 0, none⟩)] (enters_of Try.func52 (by kernel_rfl) rfl) K (by omega)
          (fun i W => QrInv w.heap.size Bo (w.heap.size + 1) w.heap.size w (K : Int) (qrs c a1 f i) W)
          (fun W => QrInv w.heap.size Bo (w.heap.size + 1) w.heap.size w (K : Int) (qrs c a1 f (K + 1)) W)
          (fun _ W q h => h.drew q)
          (fun i W hi h => qr_step c a1 f (K : Int) w.heap.size Bo (w.heap.size + 1) w.heap.size (by omega) hBo (by omega) (by omega) w i (by omega) (by omega) true (decide_eq_true (by omega)) W h)
          (fun W h => qr_step c a1 f (K : Int) w.heap.size Bo (w.heap.size + 1) w.heap.size (by omega) hBo (by omega) (by omega) w K (by omega) (by omega) false (decide_eq_false (by omega)) W h)
        have HQ : Aside0 (qrs c a1 f 0 = []) := ⟨rfl⟩
        clear hh hf hf2 hq hf1 h0 hc1 hc2
        generalize qrs c a1 f (K + 1) = res at *
        generalize hq0 : qrs c a1 f 0 = q0 at *
        clear hq0
        go_enter Try.func16, Try.ntmps16
        go_wp2_with fail
        refine hwd.mono ?_
        rintro e w' ⟨rfl, hb⟩
        have hcell : w'.cell? ⟨w.heap.size, 0, none⟩ = some (.int .i64 (K : Int)) := (hb.cell (p := ⟨w.heap.size, 0, none⟩) (by simp; omega)).trans (by simp)
        have hsz : w.heap.size < w'.heap.size := by have := hb.size; simp at this; omega
        have hB2 := Aside0.mk (below_then (((Below.refl _ w).alloc (Nat.le_refl _) (.cells #[.int .i64 (K : Int)] 3)).alloc (by simp) (.cells #[.int .i64 (f : Int)] 3)) (by simp; omega) hb)
        clear hb hwd
        go_wp2_with (first
          | (go_at_call 50; refine (hin _).mono ?_; rintro e w' ⟨rfl, ⟨q, rfl⟩⟩)
          | ((with_reducible refine gate_dst (N := 25) rfl ?_); refine Kd.R_lit (Kd.int .i64) _ 3 ?hg (N := 25) ?hd (xs := ([] : List Int)) (inner := []) (ok := fun _ => True) (okp := fun _ => True) ?hr ?hp (fun _ hk => hk) trivial (Below.refl _ _) (Nat.le_refl _) (by simp) ?_; (case hd => rfl); (case hg => rfl); (case hr => first | (go_simp; done) | (go_simp; rfl)); (case hp => exact (Reps.none _ _)); intro v1 w2 ho hb2 hg_ hnew_; clear hg_ hnew_; have HO := Aside0.mk ho; have HB3 := Aside0.mk (below_step (pw_below_drewN hB2.out _) hb2); have HC3 := Aside0.mk ((hb2.cell (p := ⟨w.heap.size, 0, none⟩) hsz).trans hcell); have HS3 := Aside0.mk (hb2.size); obtain ⟨A1, c1, rfl⟩ := Kd.R_slice ho; clear ho hb2 hcell))
        have hsz2 : w.heap.size + 1 ≤ w2.heap.size := Nat.le_trans hsz HS3.out
        refine (hrun w2.heap.size hsz2 _ ?_).mono ?_
        · refine ⟨(((Below.refl w2.heap.size w2).alloc (Nat.le_refl _) _).cell (p := ⟨w.heap.size, 0, none⟩) (show w.heap.size < w2.heap.size by omega)).trans HC3.out, ⟨_, blk_new _ _, ?_⟩, below_alloc HB3.out _⟩
          rw [HQ.out]
          exact Kd.R_alloc (Kd.R_lower HO.out hsz) _
        rintro e w5 ⟨rfl, ⟨_, ⟨v, e2, e3⟩, e4⟩⟩
        have hcv : w5.cell? ⟨w2.heap.size, 0, none⟩ = some v := (blk_cell e2 0).trans rfl
        have HR := Aside0.mk (Kd.R_lower e3 (Nat.le_succ _))
        have HB5 := Aside0.mk e4
        obtain ⟨A5, c5, rfl⟩ := Kd.R_slice e3
        clear e2 e3 e4 hrun
        go_wp2
        go_ret2
        exact ⟨_, rfl, HR.out, HB5.out⟩
      · rw [if_neg (by unfold qrOk; rw [decide_eq_false hm, Bool.and_false, Bool.and_false]; decide)] at hh
        obtain ⟨rfl, rfl⟩ := Prod.mk.injEq .. ▸ hh
        rw [decide_eq_false hm] at hin
        clear hok hh h0 hm
        go_enter Try.func16, Try.ntmps16
        go_wp2_with fail
        refine hwd.mono ?_
        rintro e w' ⟨rfl, hb⟩
        have hcell : w'.cell? ⟨w.heap.size, 0, none⟩ = some (.int .i64 a3) := (hb.cell (p := ⟨w.heap.size, 0, none⟩) (by simp; omega)).trans (by simp)
        have hB2 := Aside0.mk (below_then (((Below.refl _ w).alloc (Nat.le_refl _) (.cells #[.int .i64 a3] 3)).alloc (by simp) (.cells #[.int .i64 a2] 3)) (by simp; omega) hb)
        clear hb hwd
        go_wp2_with (go_at_call 50; refine (hin _).mono ?_; rintro e w' ⟨rfl, ⟨q, rfl⟩⟩)
        go_ret2
        exact ⟨_, rfl, Kd.R_nil _ _ _ _ _, pw_below_drewN hB2.out _⟩
end

/-! ### laws_eqIntS: function 17 -/
def laws_eqIntS.l0 : Nat → List Int → List Int → Int → Option (Bool)
  | 0, _, _, _ => none
  | k + 1, x0, x1, x5 => if x5 < (x0.length : Int) then (if 0 ≤ x5 then (if x5 < (x1.length : Int) then (if (rd x0 x5) = (rd x1 x5) then (laws_eqIntS.l0 k x0 x1 (wrap64 (x5 + 1))) else (some false)) else (none)) else (none)) else (some true)
def laws_eqIntS.f (k : Nat) (l0 : List Int) (l1 : List Int) : Option (Bool) := if (l0.length : Int) = (l1.length : Int) then (laws_eqIntS.l0 k l0 l1 0) else (some false)
theorem laws_eqIntS.mono_l : ∀ k, (∀ y0 y1 y2, LeO (laws_eqIntS.l0 k y0 y1 y2) (laws_eqIntS.l0 (k + 1) y0 y1 y2))
  | 0 => fun _ _ _ r h => by simp [laws_eqIntS.l0] at h
  | k + 1 => by
    have ih0 := laws_eqIntS.mono_l k
    · intro y0 y1 y2
      unfold laws_eqIntS.l0
      repeat' first
      | (with_reducible exact ih0 _ _ _)
      | (with_reducible exact LeO.refl _)
      | (with_reducible exact LeO.none _)
      | (with_reducible refine LeO.ite ?_ ?_)
      | (with_reducible refine LeO.bind ?_ (fun _ => ?_))
      | exact ih0 _ _ _
      | exact LeO.none _
      | refine LeO.ite ?_ ?_
      | refine LeO.bind ?_ (fun _ => ?_)
theorem laws_eqIntS.mono : ∀ a0 a1 k, LeO (laws_eqIntS.f k a0 a1) (laws_eqIntS.f (k + 1) a0 a1) := by
  intro a0 a1 k
  have ih0 := laws_eqIntS.mono_l k
  unfold laws_eqIntS.f
  repeat' first
      | (with_reducible exact ih0 _ _ _)
      | (with_reducible exact LeO.refl _)
      | (with_reducible exact LeO.none _)
      | (with_reducible refine LeO.ite ?_ ?_)
      | (with_reducible refine LeO.bind ?_ (fun _ => ?_))
      | exact ih0 _ _ _
      | exact LeO.none _
      | refine LeO.ite ?_ ?_
      | refine LeO.bind ?_ (fun _ => ?_)
set_option maxHeartbeats 8000000 in
set_option maxRecDepth 100000 in
theorem laws_eqIntS.calls (k : Nat) (A0 : Option Addr) (c0 : Nat) (l0 : List Int) (A1 : Option Addr) (c1 : Nat) (l1 : List Int) (r : Bool) (w : World) (hr0 : Kd.C (Kd.int .i64) w A0 l0.length l0) (hc0 : l0.length ≤ c0) (hr1 : Kd.C (Kd.int .i64) w A1 l1.length l1) (hc1 : l1.length ≤ c1) (h : laws_eqIntS.f k l0 l1 = some r) :
    Calls Try.prog 17 #[.slice A0 l0.length c0, .slice A1 l1.length c1] w fun e w' => e = .returned (.bool r) ∧ Drawn0 w w' := by
  have HR0 := Aside0.mk hr0
  have HC0 := Aside0.mk hc0
  clear hr0 hc0
  have HR1 := Aside0.mk hr1
  have HC1 := Aside0.mk hc1
  clear hr1 hc1
  have H : (if (l0.length : Int) = (l1.length : Int) then (laws_eqIntS.l0 k l0 l1 0) else (some false)) = some r := h
  clear h
  by_cases c3 : (l0.length : Int) = (l1.length : Int)
  · rw [if_pos c3] at H
    have c3b0 : ((l0.length : Int) == (l1.length : Int)) = true := beq_iff_eq.mpr c3
    have c3b1 : ((l0.length : Int) != (l1.length : Int)) = false := bne_eq_false_iff_eq.mpr c3
    have c3b2 : (l0.length == l1.length) = true := by first | simpa using c3 | (simp at c3 ⊢; omega)
    clear c3
    have H' := Aside0.mk H
    clear H
    go_enter Try.func17, Try.ntmps17
    go_wp2
    repeat (go_quiet (fail); try go_wp2)
    go_loopg [5] k (fun kq v5 w' => ∃ (x5_1 : Int), v5 = .int .i64 x5_1 ∧ Aside0 (laws_eqIntS.l0 kq l0 l1 x5_1 = some r) ∧ Aside0 (kq ≤ k) ∧ Drawn0 w w')
    case atStart => exact ⟨(0), (by first | rfl | (simp; done) | (simp [*]; done)), H', ⟨Nat.le_refl _⟩, by repeat (first | exact Drawn0.refl _ | apply Drawn0.step)⟩
    case round =>
      clear H'
      try clear c1
      try clear p2
      try clear c3
      try clear c3b0
      try clear c3b1
      try clear c3b2
      obtain ⟨x5_1, rfl, HA, HK1, ⟨m1, rfl⟩⟩ := hrel
      cases gk with
      | zero => exact absurd HA.out (by simp [laws_eqIntS.l0])
      | succ k1 =>
        have H := HA.out
        clear HA
        simp only [laws_eqIntS.l0] at H
        by_cases c4 : x5_1 < (l0.length : Int)
        · rw [if_pos c4] at H
          have c4b0 : decide (x5_1 < (l0.length : Int)) = true := decide_eq_true c4
          clear c4
          by_cases c5 : 0 ≤ x5_1
          · rw [if_pos c5] at H
            have c5b0 : decide (0 ≤ x5_1) = true := decide_eq_true c5
            clear c5
            by_cases c6 : x5_1 < (l1.length : Int)
            · rw [if_pos c6] at H
              have c6b0 : decide (x5_1 < (l1.length : Int)) = true := decide_eq_true c6
              clear c6
              by_cases c7 : (rd l0 x5_1) = (rd l1 x5_1)
              · rw [if_pos c7] at H
                have c7b0 : ((rd l0 x5_1) == (rd l1 x5_1)) = true := beq_iff_eq.mpr c7
                have c7b1 : ((rd l0 x5_1) != (rd l1 x5_1)) = false := bne_eq_false_iff_eq.mpr c7
                clear c7
                have H' := Aside0.mk H
                clear H
                have p111 : 0 ≤ (x5_1 : Int) := of_decide_eq_true (by first | (with_reducible assumption) | assumption)
                have q111 : x5_1 < (l0.length : Int) := of_decide_eq_true (by first | (with_reducible assumption) | assumption)
                obtain ⟨ad111, e111, hx111_0⟩ := Kd.at_int HR0.out x5_1 p111 q111
                cases e111
                replace p111 := eq_true p111
                replace q111 := eq_true q111
                have p112 : 0 ≤ (x5_1 : Int) := of_decide_eq_true (by first | (with_reducible assumption) | assumption)
                have q112 : x5_1 < (l1.length : Int) := of_decide_eq_true (by first | (with_reducible assumption) | assumption)
                obtain ⟨ad112, e112, hx112_0⟩ := Kd.at_int HR1.out x5_1 p112 q112
                cases e112
                replace p112 := eq_true p112
                replace q112 := eq_true q112
                go_wp2
                repeat (go_quiet (fail); try go_wp2)
                go_roundg k1
                case measure => have := HK1.out; omega
                case rel => exact ⟨(wrap64 (x5_1 + 1)), (by first | rfl | (simp; done) | (simp [*]; done)), H', ⟨by have := HK1.out; omega⟩, by repeat (first | exact Drawn0.refl _ | apply Drawn0.step)⟩
              · rw [if_neg c7] at H
                have c7b0 : ((rd l0 x5_1) == (rd l1 x5_1)) = false := beq_eq_false_iff_ne.mpr c7
                have c7b1 : ((rd l0 x5_1) != (rd l1 x5_1)) = true := bne_iff_ne.mpr c7
                obtain rfl := Option.some.inj H
                have p111 : 0 ≤ (x5_1 : Int) := of_decide_eq_true (by first | (with_reducible assumption) | assumption)
                have q111 : x5_1 < (l0.length : Int) := of_decide_eq_true (by first | (with_reducible assumption) | assumption)
                obtain ⟨ad111, e111, hx111_0⟩ := Kd.at_int HR0.out x5_1 p111 q111
                cases e111
                replace p111 := eq_true p111
                replace q111 := eq_true q111
                have p112 : 0 ≤ (x5_1 : Int) := of_decide_eq_true (by first | (with_reducible assumption) | assumption)
                have q112 : x5_1 < (l1.length : Int) := of_decide_eq_true (by first | (with_reducible assumption) | assumption)
                obtain ⟨ad112, e112, hx112_0⟩ := Kd.at_int HR1.out x5_1 p112 q112
                cases e112
                replace p112 := eq_true p112
                replace q112 := eq_true q112
                go_wp2
                repeat (go_quiet (fail); try go_wp2)
                go_ret
                exact ⟨by first | rfl | (simp; done) | (simp [*]; done), by repeat (first | exact Drawn0.refl _ | apply Drawn0.step)⟩
            · rw [if_neg c6] at H
              exact absurd H (by simp)
          · rw [if_neg c5] at H
            exact absurd H (by simp)
        · rw [if_neg c4] at H
          have c4b0 : decide (x5_1 < (l0.length : Int)) = false := decide_eq_false c4
          clear c4
          obtain rfl := Option.some.inj H
          go_wp2
          repeat (go_quiet (fail); try go_wp2)
          go_ret
          exact ⟨by first | rfl | (simp; done) | (simp [*]; done), by repeat (first | exact Drawn0.refl _ | apply Drawn0.step)⟩
  · rw [if_neg c3] at H
    have c3b0 : ((l0.length : Int) == (l1.length : Int)) = false := beq_eq_false_iff_ne.mpr c3
    have c3b1 : ((l0.length : Int) != (l1.length : Int)) = true := bne_iff_ne.mpr c3
    have c3b2 : (l0.length == l1.length) = false := by first | simpa using c3 | (simp at c3 ⊢; omega)
    obtain rfl := Option.some.inj H
    go_enter Try.func17, Try.ntmps17
    go_wp2
    repeat (go_quiet (fail); try go_wp2)
    go_ret
    exact ⟨by first | rfl | (simp; done) | (simp [*]; done), by repeat (first | exact Drawn0.refl _ | apply Drawn0.step)⟩

/-! ### laws_markIntS: function 18 -/
def laws_markIntS.l0 : Nat → List Int → Int → Int → Option (Int × List Int)
  | 0, _, _, _ => none
  | k + 1, x0, x1, x5 => if x5 < (x0.length : Int) then (if 0 ≤ x5 then (laws_markIntS.l0 k (x0.set (x5 : Int).toNat x1) (wrap64 (x1 + 1)) (wrap64 (x5 + 1))) else (none)) else (some (x1, x0))
def laws_markIntS.f (k : Nat) (l0 : List Int) (a1 : Int) : Option (Int × List Int) := laws_markIntS.l0 k l0 a1 0
theorem laws_markIntS.mono_l : ∀ k, (∀ y0 y1 y2, LeO (laws_markIntS.l0 k y0 y1 y2) (laws_markIntS.l0 (k + 1) y0 y1 y2))
  | 0 => fun _ _ _ r h => by simp [laws_markIntS.l0] at h
  | k + 1 => by
    have ih0 := laws_markIntS.mono_l k
    · intro y0 y1 y2
      unfold laws_markIntS.l0
      repeat' first
      | (with_reducible exact ih0 _ _ _)
      | (with_reducible exact LeO.refl _)
      | (with_reducible exact LeO.none _)
      | (with_reducible refine LeO.ite ?_ ?_)
      | (with_reducible refine LeO.bind ?_ (fun _ => ?_))
      | exact ih0 _ _ _
      | exact LeO.none _
      | refine LeO.ite ?_ ?_
      | refine LeO.bind ?_ (fun _ => ?_)
theorem laws_markIntS.mono : ∀ a0 a1 k, LeO (laws_markIntS.f k a0 a1) (laws_markIntS.f (k + 1) a0 a1) := by
  intro a0 a1 k
  have ih0 := laws_markIntS.mono_l k
  unfold laws_markIntS.f
  repeat' first
      | (with_reducible exact ih0 _ _ _)
      | (with_reducible exact LeO.refl _)
      | (with_reducible exact LeO.none _)
      | (with_reducible refine LeO.ite ?_ ?_)
      | (with_reducible refine LeO.bind ?_ (fun _ => ?_))
      | exact ih0 _ _ _
      | exact LeO.none _
      | refine LeO.ite ?_ ?_
      | refine LeO.bind ?_ (fun _ => ?_)
set_option maxHeartbeats 8000000 in
set_option maxRecDepth 100000 in
theorem laws_markIntS.calls (k : Nat) (P0_ : Nat → Prop) (u9000_ : Value) (l0 : List Int) (a1 : Int) (r1 : Int) (r2 : List Int) (w0 w : World) (hB : Below w0.heap.size w0 w) (ho0 : Kd.R (Kd.int .i64) 3 w w0.heap.size P0_ u9000_ l0) (h : laws_markIntS.f k l0 a1 = some (r1, r2)) :
    Calls Try.prog 18 #[u9000_, .int .i64 a1] w fun e w' => e = .returned (.int .i64 r1) ∧ Kd.R (Kd.int .i64) 3 w' w0.heap.size (fun k_ => (P0_ k_ ∨ w.heap.size ≤ k_)) u9000_ r2 ∧ Below w0.heap.size w0 w' ∧ Kept w w' (fun k_ => P0_ k_) := by
  have HO0 := Aside0.mk (show Kd.R (Kd.int .i64) 3 w w0.heap.size (fun k_ => (P0_ k_ ∨ w.heap.size ≤ k_)) u9000_ l0 from Kd.R_mono ho0 (fun k_ hk => (.inl hk)))
  have HK := Aside0.mk (Kept.refl w (fun k_ => P0_ k_))
  have HW0 := Aside0.mk hB.size
  have HB := Aside0.mk hB
  clear hB
  have H : (laws_markIntS.l0 k l0 a1 0) = some (r1, r2) := h
  clear h
  have H' := Aside0.mk H
  clear H
  go_enter Try.func18, Try.ntmps18
  go_wp2
  go_loopg [1, 5] k (fun kq v1 v5 w' => ∃ (x0_1 : List Int) (x1_1 : Int) (x5_1 : Int), v1 = .int .i64 x1_1 ∧ v5 = .int .i64 x5_1 ∧ Aside0 (laws_markIntS.l0 kq x0_1 x1_1 x5_1 = some (r1, r2)) ∧ Aside0 (kq ≤ k) ∧ Aside0 (Kd.R (Kd.int .i64) 3 w' w0.heap.size (fun k_ => (P0_ k_ ∨ w.heap.size ≤ k_)) u9000_ x0_1) ∧ Aside0 (Kept w w' (fun k_ => P0_ k_)) ∧ Aside0 (Below w0.heap.size w0 w'))
  case atStart => exact ⟨(l0), (a1), (0), (by first | rfl | (simp; done) | (simp [*]; done)), (by first | rfl | (simp; done) | (simp [*]; done)), H', ⟨Nat.le_refl _⟩, ⟨by (with_reducible repeat (first | apply Kd.R_alloc | apply Kd.R_drewN | apply Kd.R_drew)); exact HO0.out⟩, ⟨by repeat (first | (with_reducible first | exact HK.out | apply Kept.alloc | apply Kept.drewN | apply Kept.drew) | exact HK.out)⟩, ⟨by repeat (first | (with_reducible first | exact HB.out | apply below_alloc | apply pw_below_drewN | apply below_drew1) | exact HB.out)⟩⟩
  case round =>
    clear H'
    try clear c1
    try clear p2
    obtain ⟨x0_1, x1_1, x5_1, rfl, rfl, HA, HK1, HO_0, HK, HB⟩ := hrel
    cases gk with
    | zero => exact absurd HA.out (by simp [laws_markIntS.l0])
    | succ k1 =>
      have H := HA.out
      clear HA
      simp only [laws_markIntS.l0] at H
      by_cases c3 : x5_1 < (x0_1.length : Int)
      · rw [if_pos c3] at H
        have c3b0 : decide (x5_1 < (x0_1.length : Int)) = true := decide_eq_true c3
        clear c3
        by_cases c4 : 0 ≤ x5_1
        · rw [if_pos c4] at H
          have c4b0 : decide (0 ≤ x5_1) = true := decide_eq_true c4
          clear c4
          obtain ⟨y113, hy113⟩ : ∃ y_ : List Int, y_ = (x0_1.set (x5_1 : Int).toNat x1_1) := ⟨_, rfl⟩
          replace H : (laws_markIntS.l0 k1 y113 (wrap64 (x1_1 + 1)) (wrap64 (x5_1 + 1))) = some (r1, r2) := by first | (rw [hy113]; with_reducible exact H) | (have H2_ := (Option.bind_some _ _).symm.trans H; rw [hy113]; with_reducible exact H2_) | (have H2_ := (Option.bind_some _ _).symm.trans H; with_reducible exact H2_) | with_reducible exact H | (rw [hy113]; exact H) | exact H
          have Ny113 := Aside0.mk hy113
          clear hy113
          have H' := Aside0.mk H
          clear H
          obtain ⟨Ao6, co6, eo6⟩ := Kd.R_slice HO_0.out
          subst eo6
          have p5 : 0 ≤ (x5_1 : Int) := of_decide_eq_true (by first | (with_reducible assumption) | assumption)
          have q5 : (x5_1 : Int) < ((x0_1.length : Int) : Int) := of_decide_eq_true (by first | (with_reducible assumption) | assumption)
          obtain ⟨go5, co5, eo5, gb5, gl5, cl5, HG5⟩ := Kd.R_form HO_0.out (by omega)
          (first | cases eo5 | (injection eo5 with ea_ en_ ec_; (first | subst ea_ | (injection ea_ with ea_; subst ea_)); subst ec_; clear en_))
          have GB5 := Aside0.mk gb5
          have GG5 := Aside0.mk HG5
          clear gb5 gl5 HG5
          have HMgo5 := Aside0.mk (show (P0_ go5 ∨ w.heap.size ≤ go5) from (HO_0.out.1 _ rfl))
          obtain ⟨hx5_0, hf5_0⟩ := Kd.R_celln 0 HO_0.out (x5_1 : Int) p5 q5
          replace p5 := eq_true p5
          replace q5 := eq_true q5
          have HP7 := Kd.R_putg HO_0.out (x5_1 : Int) x1_1
          go_wp2_with (first | ((with_reducible refine gate_store (t := 3) (p := 15) rfl ?_); refine store_event (t := 3) (p := 15) (v := ?vo_w8) (w1 := (wr.setCell ⟨go5, (x5_1 : Int).toNat, none⟩ (.int .i64 x1_1))) ?hg ?ho ?hn ?hr ?_; (case ho => rfl); (case hg => rfl); (case hn => rfl); (case hr => first | (go_simp; done) | (go_simp; rfl)); intro w8 hw; have hg : wr.grownBy w8 (some go5) := (by rw [hw]; exact HP7.2); have hp_ : Kd.R (Kd.int .i64) 3 w8 w0.heap.size (fun k_ => (P0_ k_ ∨ w.heap.size ≤ k_)) (.slice (some ⟨go5, 0, none⟩) x0_1.length co6) y113 := (by rw [hw, Ny113.out]; exact HP7.1); clear HP7; have n0_ := Aside0.mk (hp_); have n1_ := Aside0.mk ((by rw [hw]; exact below_set (HB.out) GB5.out : Below w0.heap.size w0 w8)); have n2_ := Aside0.mk (Kept.of_grown (S := (fun k_ => P0_ k_)) hg (by repeat (first | (with_reducible first | exact HK.out | apply Kept.alloc | apply Kept.drewN | apply Kept.drew) | exact HK.out)) (fun k_ e_ => (HO_0.out.1 k_ e_))); clear HO_0; clear HB; clear HK; have HO_0 := n0_; have HB := n1_; have HK := n2_; clear n0_ n1_ n2_; clear hg hw hp_))
          go_roundg k1
          case measure => have := HK1.out; omega
          case rel => exact ⟨(y113), (wrap64 (x1_1 + 1)), (wrap64 (x5_1 + 1)), (by first | rfl | (simp; done) | (simp [*]; done)), (by first | rfl | (simp; done) | (simp [*]; done)), H', ⟨by have := HK1.out; omega⟩, ⟨by (with_reducible repeat (first | apply Kd.R_alloc | apply Kd.R_drewN | apply Kd.R_drew)); exact HO_0.out⟩, ⟨by repeat (first | (with_reducible first | exact HK.out | apply Kept.alloc | apply Kept.drewN | apply Kept.drew) | exact HK.out)⟩, ⟨by repeat (first | (with_reducible first | exact HB.out | apply below_alloc | apply pw_below_drewN | apply below_drew1) | exact HB.out)⟩⟩
        · rw [if_neg c4] at H
          exact absurd H (by simp)
      · rw [if_neg c3] at H
        have c3b0 : decide (x5_1 < (x0_1.length : Int)) = false := decide_eq_false c3
        clear c3
        simp only [Option.some.injEq, Prod.mk.injEq] at H
        obtain ⟨rfl, rfl⟩ := H
        obtain ⟨Ao9, co9, eo9⟩ := Kd.R_slice HO_0.out
        subst eo9
        go_wp2
        go_ret
        exact ⟨by first | rfl | (simp [errW_none, errW_some] <;> rfl) | (simp [*, errW_none, errW_some] <;> rfl), by (with_reducible repeat (first | apply Kd.R_alloc | apply Kd.R_drewN | apply Kd.R_drew)); exact HO_0.out, by repeat (first | (with_reducible first | exact HB.out | apply below_alloc | apply pw_below_drewN | apply below_drew1) | exact HB.out), by repeat (first | (with_reducible first | exact HK.out | apply Kept.alloc | apply Kept.drewN | apply Kept.drew) | exact HK.out)⟩

/-! ### laws_heldIntS: function 19 -/
def laws_heldIntS.l0 : Nat → List Int → Int → Int → Option (Int)
  | 0, _, _, _ => none
  | k + 1, x0, x1, x5 => if x5 < (x0.length : Int) then (if 0 ≤ x5 then (if (rd x0 x5) = x1 then (laws_heldIntS.l0 k x0 (wrap64 (x1 + 1)) (wrap64 (x5 + 1))) else (some (-1))) else (none)) else (some x1)
def laws_heldIntS.f (k : Nat) (l0 : List Int) (a1 : Int) : Option (Int) := laws_heldIntS.l0 k l0 a1 0
theorem laws_heldIntS.mono_l : ∀ k, (∀ y0 y1 y2, LeO (laws_heldIntS.l0 k y0 y1 y2) (laws_heldIntS.l0 (k + 1) y0 y1 y2))
  | 0 => fun _ _ _ r h => by simp [laws_heldIntS.l0] at h
  | k + 1 => by
    have ih0 := laws_heldIntS.mono_l k
    · intro y0 y1 y2
      unfold laws_heldIntS.l0
      repeat' first
      | (with_reducible exact ih0 _ _ _)
      | (with_reducible exact LeO.refl _)
      | (with_reducible exact LeO.none _)
      | (with_reducible refine LeO.ite ?_ ?_)
      | (with_reducible refine LeO.bind ?_ (fun _ => ?_))
      | exact ih0 _ _ _
      | exact LeO.none _
      | refine LeO.ite ?_ ?_
      | refine LeO.bind ?_ (fun _ => ?_)
theorem laws_heldIntS.mono : ∀ a0 a1 k, LeO (laws_heldIntS.f k a0 a1) (laws_heldIntS.f (k + 1) a0 a1) := by
  intro a0 a1 k
  have ih0 := laws_heldIntS.mono_l k
  unfold laws_heldIntS.f
  repeat' first
      | (with_reducible exact ih0 _ _ _)
      | (with_reducible exact LeO.refl _)
      | (with_reducible exact LeO.none _)
      | (with_reducible refine LeO.ite ?_ ?_)
      | (with_reducible refine LeO.bind ?_ (fun _ => ?_))
      | exact ih0 _ _ _
      | exact LeO.none _
      | refine LeO.ite ?_ ?_
      | refine LeO.bind ?_ (fun _ => ?_)
set_option maxHeartbeats 8000000 in
set_option maxRecDepth 100000 in
theorem laws_heldIntS.calls (k : Nat) (A0 : Option Addr) (c0 : Nat) (l0 : List Int) (a1 : Int) (r : Int) (w : World) (hr0 : Kd.C (Kd.int .i64) w A0 l0.length l0) (hc0 : l0.length ≤ c0) (h : laws_heldIntS.f k l0 a1 = some r) :
    Calls Try.prog 19 #[.slice A0 l0.length c0, .int .i64 a1] w fun e w' => e = .returned (.int .i64 r) ∧ Drawn0 w w' := by
  have HR0 := Aside0.mk hr0
  have HC0 := Aside0.mk hc0
  clear hr0 hc0
  have H : (laws_heldIntS.l0 k l0 a1 0) = some r := h
  clear h
  have H' := Aside0.mk H
  clear H
  go_enter Try.func19, Try.ntmps19
  go_wp2
  go_loopg [1, 5] k (fun kq v1 v5 w' => ∃ (x1_1 : Int) (x5_1 : Int), v1 = .int .i64 x1_1 ∧ v5 = .int .i64 x5_1 ∧ Aside0 (laws_heldIntS.l0 kq l0 x1_1 x5_1 = some r) ∧ Aside0 (kq ≤ k) ∧ Drawn0 w w')
  case atStart => exact ⟨(a1), (0), (by first | rfl | (simp; done) | (simp [*]; done)), (by first | rfl | (simp; done) | (simp [*]; done)), H', ⟨Nat.le_refl _⟩, by repeat (first | exact Drawn0.refl _ | apply Drawn0.step)⟩
  case round =>
    clear H'
    try clear c1
    try clear p2
    obtain ⟨x1_1, x5_1, rfl, rfl, HA, HK1, ⟨m1, rfl⟩⟩ := hrel
    cases gk with
    | zero => exact absurd HA.out (by simp [laws_heldIntS.l0])
    | succ k1 =>
      have H := HA.out
      clear HA
      simp only [laws_heldIntS.l0] at H
      by_cases c3 : x5_1 < (l0.length : Int)
      · rw [if_pos c3] at H
        have c3b0 : decide (x5_1 < (l0.length : Int)) = true := decide_eq_true c3
        clear c3
        by_cases c4 : 0 ≤ x5_1
        · rw [if_pos c4] at H
          have c4b0 : decide (0 ≤ x5_1) = true := decide_eq_true c4
          clear c4
          by_cases c5 : (rd l0 x5_1) = x1_1
          · rw [if_pos c5] at H
            have c5b0 : ((rd l0 x5_1) == x1_1) = true := beq_iff_eq.mpr c5
            have c5b1 : ((rd l0 x5_1) != x1_1) = false := bne_eq_false_iff_eq.mpr c5
            clear c5
            have H' := Aside0.mk H
            clear H
            have p114 : 0 ≤ (x5_1 : Int) := of_decide_eq_true (by first | (with_reducible assumption) | assumption)
            have q114 : x5_1 < (l0.length : Int) := of_decide_eq_true (by first | (with_reducible assumption) | assumption)
            obtain ⟨ad114, e114, hx114_0⟩ := Kd.at_int HR0.out x5_1 p114 q114
            cases e114
            replace p114 := eq_true p114
            replace q114 := eq_true q114
            go_wp2
            go_roundg k1
            case measure => have := HK1.out; omega
            case rel => exact ⟨(wrap64 (x1_1 + 1)), (wrap64 (x5_1 + 1)), (by first | rfl | (simp; done) | (simp [*]; done)), (by first | rfl | (simp; done) | (simp [*]; done)), H', ⟨by have := HK1.out; omega⟩, by repeat (first | exact Drawn0.refl _ | apply Drawn0.step)⟩
          · rw [if_neg c5] at H
            have c5b0 : ((rd l0 x5_1) == x1_1) = false := beq_eq_false_iff_ne.mpr c5
            have c5b1 : ((rd l0 x5_1) != x1_1) = true := bne_iff_ne.mpr c5
            obtain rfl := Option.some.inj H
            have p114 : 0 ≤ (x5_1 : Int) := of_decide_eq_true (by first | (with_reducible assumption) | assumption)
            have q114 : x5_1 < (l0.length : Int) := of_decide_eq_true (by first | (with_reducible assumption) | assumption)
            obtain ⟨ad114, e114, hx114_0⟩ := Kd.at_int HR0.out x5_1 p114 q114
            cases e114
            replace p114 := eq_true p114
            replace q114 := eq_true q114
            go_wp2
            go_ret
            exact ⟨by first | rfl | (simp; done) | (simp [*]; done), by repeat (first | exact Drawn0.refl _ | apply Drawn0.step)⟩
        · rw [if_neg c4] at H
          exact absurd H (by simp)
      · rw [if_neg c3] at H
        have c3b0 : decide (x5_1 < (l0.length : Int)) = false := decide_eq_false c3
        clear c3
        obtain rfl := Option.some.inj H
        go_wp2
        go_ret
        exact ⟨by first | rfl | (simp; done) | (simp [*]; done), by repeat (first | exact Drawn0.refl _ | apply Drawn0.step)⟩

end Go.Proofs.Ythjbccbaobkobaa.PFnExactQuietRows
