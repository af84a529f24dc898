/- What the solver of effects computes: the program's walk, once: solverFor, solverOf, solve. -/
import Derived.Test.YtgnjndkbccakgaaExt
import Derived.Test.YtgnjndkbccakgaaRea
namespace Go.Proofs.Ytgnjndkbccakgaa.Sol
open Go.RowKit Go.Proofs.Ytgnjndkbccakgaa.PBase Go.Proofs.YtgnjndkbccakgaaW.PrintWords Go.Proofs.YtgnjndkbccakgaaW.PrintLast Go.Proofs.YtgnjndkbccakgaaW.PrintMore
open Go.Proofs.Ytgnjndkbccakgaa.Lin Go.Proofs.Ytgnjndkbccakgaa.Bit Go.Proofs.Ytgnjndkbccakgaa.Gra Go.Proofs.Ytgnjndkbccakgaa.Red Go.Proofs.Ytgnjndkbccakgaa.Ker Go.Proofs.Ytgnjndkbccakgaa.Ext Go.Proofs.Ytgnjndkbccakgaa.Rea

abbrev ki : Kd Int := Kd.int .i64
theorem filt_len (p q : Nat → Bool) (B : List Nat) (h : ∀ b ∈ B, ¬ (p b = true ∧ q b = true)) : (B.filter p).length + (B.filter q).length ≤ B.length := by
  induction B with
  | nil => exact Nat.le_refl _
  | cons b B ih =>
    have ih := ih fun c hc => h c (List.mem_cons_of_mem _ hc)
    have hb := h b (List.mem_cons_self ..)
    rw [List.filter_cons, List.filter_cons]
    cases hp : p b <;> cases hq : q b
    · simp; omega
    · simp; omega
    · simp; omega
    · exact absurd ⟨hp, hq⟩ hb
theorem putB_red0 {B : List Nat} {s : Nat} (h : red B s = 0) : putB B s = B := by
  unfold putB
  rw [if_pos h]
theorem putB_len (B : List Nat) (s : Nat) : (putB B s).length ≤ B.length + 1 := by
  by_cases h : red B s = 0
  · rw [putB_red0 h]; omega
  · have e : putB B s = B.filter (fun b => b.log2 < (red B s).log2) ++ red B s :: (B.filter (fun b => (red B s).log2 < b.log2)).map (clr (red B s)) := if_neg h
    have := filt_len (fun b => decide (b.log2 < (red B s).log2)) (fun b => decide ((red B s).log2 < b.log2)) B (fun b _ h => by simp at h; omega)
    rw [e, List.length_append, List.length_cons, List.length_map]
    omega

/-- extended, called with a row of the call's own: the basis with a set more is one too. -/
theorem extended_R {n0 : Nat} {B : List Nat} {s : Nat} (hs : s < 2 ^ 62) (hB : IsB B) (hlt : ∀ b ∈ B, b < 2 ^ 62) (hl : B.length ≤ 1000000) {w : World} {v : Value} (hn : n0 ≤ w.heap.size) (hR : ki.R 3 w n0 (fun _ => True) v (zs B)) :
    Calls Try.prog 87 #[v, .int .i64 (s : Int)] w fun e w' => ∃ v' : Value, e = .returned v' ∧ Below w.heap.size w w' ∧ ki.R 3 w' n0 (fun _ => True) v' (zs (putB B s)) := by
  obtain ⟨A, c, rfl, hc, hC⟩ := Kd.R_reads hR
  rw [zs_length] at *
  refine (extended_calls A c B s hs hB hlt hl hc w hC).mono ?_
  rintro e w' ⟨v', rfl, hb, ⟨h0, rfl⟩ | ⟨h0, hr⟩⟩
  · exact ⟨_, rfl, hb, by rw [putB_red0 h0]; exact Kd.R_below hR hb⟩
  · exact ⟨_, rfl, hb, Kd.R_lower hr hn⟩

/-- A solver lies at S, with its three rows. -/
structure Sv (W : World) (n0 S : Nat) (pv qv iv : Value) (P : List (Nat × Nat)) (Q I : List Nat) : Prop where
  blk : W.heap[S]? = some (.cells #[pv, qv, iv] 84 (0, 0))
  p : kp.R 102 W n0 (fun _ => True) pv (zsp P)
  q : ki.R 3 W n0 (fun _ => True) qv (zs Q)
  i : ki.R 3 W n0 (fun _ => True) iv (zs I)
section
variable {W W' : World} {n0 S : Nat} {pv qv iv : Value} {P : List (Nat × Nat)} {Q I : List Nat}
theorem Sv.below (h : Sv W n0 S pv qv iv P Q I) (hb : Below W.heap.size W W') : Sv W' n0 S pv qv iv P Q I := ⟨blk_below h.blk hb, Kd.R_below h.p hb, Kd.R_below h.q hb, Kd.R_below h.i hb⟩
theorem Sv.c0 (h : Sv W n0 S pv qv iv P Q I) : W.cell? ⟨S, 0, none⟩ = some pv := (blk_cell h.blk 0).trans rfl
theorem Sv.c1 (h : Sv W n0 S pv qv iv P Q I) : W.cell? ⟨S, 1, none⟩ = some qv := (blk_cell h.blk 1).trans rfl
theorem Sv.c2 (h : Sv W n0 S pv qv iv P Q I) : W.cell? ⟨S, 2, none⟩ = some iv := (blk_cell h.blk 2).trans rfl
theorem Sv.fr (h : Sv W n0 S pv qv iv P Q I) (j : Nat) : W.frozen? ⟨S, j, none⟩ = false := blk_frozen h.blk j
theorem Sv.lt (h : Sv W n0 S pv qv iv P Q I) : S < W.heap.size := blk_lt h.blk
theorem Sv.setI (h : Sv W n0 S pv qv iv P Q I) {v : Value} {I' : List Nat} (hv : ki.R 3 W n0 (fun _ => True) v (zs I')) : Sv (W.setCell ⟨S, 2, none⟩ v) n0 S pv qv v P Q I' :=
  ⟨blk_put h.blk 2 v rfl, Kd.R_set h.p h.blk (by decide) 2 v, Kd.R_set h.q h.blk (by decide) 2 v, Kd.R_set hv h.blk (by decide) 2 v⟩
theorem Sv.setQ (h : Sv W n0 S pv qv iv P Q I) {v : Value} {Q' : List Nat} (hv : ki.R 3 W n0 (fun _ => True) v (zs Q')) : Sv (W.setCell ⟨S, 1, none⟩ v) n0 S pv v iv P Q' I :=
  ⟨blk_put h.blk 1 v rfl, Kd.R_set h.p h.blk (by decide) 1 v, Kd.R_set hv h.blk (by decide) 1 v, Kd.R_set h.i h.blk (by decide) 1 v⟩
theorem Sv.setP (h : Sv W n0 S pv qv iv P Q I) {v : Value} {P' : List (Nat × Nat)} (hv : kp.R 102 W n0 (fun _ => True) v (zsp P')) : Sv (W.setCell ⟨S, 0, none⟩ v) n0 S v qv iv P' Q I :=
  ⟨blk_put h.blk 0 v rfl, Kd.R_set hv h.blk (by decide) 0 v, Kd.R_set h.q h.blk (by decide) 0 v, Kd.R_set h.i h.blk (by decide) 0 v⟩
/-- The row of pairs has grown. -/
theorem Sv.grown (h : Sv W n0 S pv qv iv P Q I) (hg : W.grownBy W' pv.ownBlock) : W'.heap[S]? = some (.cells #[pv, qv, iv] 84 (0, 0)) ∧ ki.R 3 W' n0 (fun _ => True) qv (zs Q) ∧ ki.R 3 W' n0 (fun _ => True) iv (zs I) :=
  ⟨blk_grown h.blk hg (Kd.R_ne h.p h.blk (by decide)), Kd.R_over h.q h.p (by decide) hg, Kd.R_over h.i h.p (by decide) hg⟩
end
theorem info_pair : (Try.prog.info? 102).map (fun i => (i.zero, i.size, i.bytes)) = some (some (.agg #[.int .i64 0, .int .i64 0]), 2, 16) := by kernel_rfl

/-- What is known of a solver behind the first effects. -/
structure Know (es : List Nat) (P : List (Nat × Nat)) (Q I : List Nat) : Prop where
  inv : Inv es P Q
  img : I = img es
  pl : P.length ≤ es.length
  ql : Q.length ≤ es.length
  il : I.length ≤ es.length
theorem img_len (es : List Nat) : (img es).length ≤ es.length := by
  have h : ∀ k, k ≤ es.length → (Ker.img (es.take k)).length ≤ k := by
    intro k
    induction k with
    | zero => intro _; rw [List.take_zero]; exact Nat.le_refl _
    | succ k ih =>
      intro hk
      rw [List.take_succ_eq_append_getElem (by omega), img_snoc]
      have := putB_len (Ker.img (es.take k)) es[k]
      have := ih (by omega)
      omega
  have := h es.length (Nat.le_refl _)
  rwa [List.take_length] at this
theorem img_lt {es : List Nat} {n : Nat} (h : ∀ e ∈ es, e < 2 ^ n) : ∀ b ∈ img es, b < 2 ^ n := fun b hb => Sp.lt h ((img_sp es b).1 (Sp.mem hb))
theorem Know.lt {es : List Nat} {P : List (Nat × Nat)} {Q I : List Nat} (h : Know es P Q I) (he : ∀ e ∈ es, e < 2 ^ 16) (hn : es.length ≤ 16) :
    (∀ b ∈ P, (1 ≤ b.1 ∧ b.1 < 2 ^ 62) ∧ b.2 < 2 ^ 62) ∧ (∀ b ∈ Q, b < 2 ^ 62) ∧ (∀ b ∈ I, b < 2 ^ 62) := by
  have h16 : 2 ^ es.length ≤ 2 ^ 16 := Nat.pow_le_pow_right (by decide) hn
  refine ⟨fun b hb => ?_, fun b hb => ?_, fun b hb => ?_⟩
  · have h1 := h.inv.dis.ne b hb
    obtain ⟨h2, h3⟩ := h.inv.pr b hb
    have h4 := mp_lt he b.2 es.length
    rw [h3] at h4
    omega
  · have := (h.inv.qt b hb).1
    omega
  · rw [h.img] at hb
    have := img_lt he b hb
    omega
theorem Know.start : Know [] [] [] [] := ⟨Inv.start, rfl, Nat.le_refl _, Nat.le_refl _, Nat.le_refl _⟩

set_option maxRecDepth 100000 in
set_option maxHeartbeats 8000000 in
/-- solverFor, called: a solver that knows the effects. -/
theorem solverFor_calls (A : Option Addr) (cap : Nat) (es : List Nat) (he : ∀ e ∈ es, e < 2 ^ 16) (hn : es.length ≤ 16) (hcap : es.length ≤ cap) (w : World) (hC : ki.C w A es.length (zs es)) :
    Calls Try.prog 92 #[.slice A es.length cap] w fun e w' => ∃ S pv qv iv P Q I, e = .returned (.pointer (some ⟨S, 0, none⟩)) ∧ Sv w' w.heap.size S pv qv iv P Q I ∧ Know es P Q I ∧ Below w.heap.size w w' := by
  have HC := Aside0.mk hC
  have HE := Aside0.mk (fun (i : Nat) (hi : i < es.length) => (⟨rd_zs es i, by rw [gD_lt _ _ hi]; exact he _ (List.getElem_mem hi), by rw [List.take_succ_eq_append_getElem hi, gD_lt _ _ hi]⟩ : rd (zs es) (i : Int) = ((es.getD i 0 : Nat) : Int) ∧ es.getD i 0 < 2 ^ 16 ∧ es.take (i + 1) = es.take i ++ [es.getD i 0]))
  have HT := Aside0.mk (fun (i : Nat) (hi : i ≤ es.length) => (⟨fun e h => he e (List.mem_of_mem_take h), by rw [List.length_take]; omega⟩ : (∀ e ∈ es.take i, e < 2 ^ 16) ∧ (es.take i).length = i))
  have HA : Aside0 (es.take es.length = es) := ⟨List.take_length⟩
  clear hC he
  generalize hnn : es.length = n at *
  clear hnn
  go_enter Try.func92, Try.ntmps92
  go_wp2
  have hS0 : (w.alloc (.cells #[.slice none 0 0, .slice none 0 0, .slice none 0 0] 84)).heap[w.heap.size]? = some (.cells #[.slice none 0 0, .slice none 0 0, .slice none 0 0] 84 (0, 0)) := blk_new _ _
  go_loopw [12] (fun s wr => ∃ i : Nat, i ≤ n ∧ s = .int .i64 i ∧ Aside0 (∃ pv qv iv P Q I, Sv wr w.heap.size w.heap.size pv qv iv P Q I ∧ Know (es.take i) P Q I) ∧ Aside0 (Below w.heap.size w wr)) (fun s _ => n - (intOf s).toNat)
  case atStart => exact ⟨0, Nat.zero_le _, rfl, ⟨_, _, _, [], [], [], ⟨hS0, Kd.R_nil _ _ _ _ _, Kd.R_nil _ _ _ _ _, Kd.R_nil _ _ _ _ _⟩, by rw [List.take_zero]; exact Know.start⟩, ⟨below_alloc (Below.refl _ _) _⟩⟩
  case round =>
    clear hS0
    obtain ⟨i, hi, rfl, HK, HB⟩ := hrel
    by_cases hlt : i < n
    · obtain ⟨pv, qv, iv, P, Q, I, hsv, hkn⟩ := HK.out
      clear HK
      obtain ⟨hei, he16, htk⟩ := HE.out i hlt
      obtain ⟨ht1, ht2⟩ := HT.out i hi
      obtain ⟨ad, e1, hci⟩ := Kd.at_int (Kd.C_below HC.out HB.out) (i : Int) (by omega) (by omega)
      subst e1
      rw [Int.toNat_natCast, hei] at hci
      obtain ⟨kp1, kq1, ki1⟩ := hkn.lt ht1 (by omega)
      have hpl := hkn.pl
      have hql := hkn.ql
      have hil := hkn.il
      rw [ht2] at hpl hql hil
      have HTK := Aside0.mk htk
      have HTL := Aside0.mk ht2
      have HT1 := Aside0.mk ht1
      have HKN := Aside0.mk hkn
      have hIB : IsB I := by rw [hkn.img]; exact img_isB _
      have hQB : IsB Q := hkn.inv.isB
      clear htk hei ht1 ht2 hkn
      generalize es.getD i 0 = e at *
      have hc2 := hsv.c2
      have hx1 := extended_R (s := e) (by omega) hIB ki1 (by omega) HB.out.size hsv.i
      go_wp2_with fail
      refine hx1.mono ?_
      rintro e1 w1 ⟨v1, rfl, hb1, hR1⟩
      clear hx1 hci hc2
      have HB1 := Aside0.mk (below_then HB.out HB.out.size hb1)
      have hsv1 := hsv.below hb1
      have HI := Aside0.mk (show ∃ A c, v1 = .slice A (putB I e).length c from by have := Kd.R_slice hR1; rwa [zs_length] at this)
      have hsv2 := hsv1.setI hR1
      have HB2 := Aside0.mk (HB1.out.setCell (p := ⟨w.heap.size, 2, none⟩) (Nat.le_refl _) v1)
      have hIl := putB_len I e
      have HII := Aside0.mk (⟨by rw [HKN.out.img, HTK.out, img_snoc], by omega⟩ : putB I e = img (es.take (i + 1)) ∧ (putB I e).length ≤ i + 1)
      clear hR1 hsv HB
      generalize putB I e = I2 at *
      obtain ⟨A1, c1, rfl⟩ := HI.out
      have hc21 := hsv1.c2
      have hf21 := hsv1.fr 2
      have HSV := Aside0.mk hsv2
      obtain ⟨Ap, cp, hpv, hcp, hpC⟩ := Kd.R_reads hsv2.p
      rw [zsp_length] at hpv hcp hpC
      have hreach := reach_calls w.heap.size Ap cp P e (by omega) kp1 (by omega) hcp _ (hsv2.c0.trans (by rw [hpv])) hpC
      have HREACH := Aside0.mk hreach
      clear hreach hsv1 hsv2 hpC
      go_wp2_with fail
      have hreach := HREACH.out
      clear HREACH
      refine hreach.mono ?_
      rintro e2 w3 ⟨l', p', rfl, ⟨hre, hl62, hp62⟩, hb3⟩
      have hsv3 := HSV.out.below hb3
      have HB3 := Aside0.mk (below_then HB2.out HB2.out.size hb3)
      have HRE := Aside0.mk hre
      clear hreach HSV HB2 HB1 hre hb3 hc21 hf21
      have hi16 : 2 ^ i ≤ 2 ^ 16 := Nat.pow_le_pow_right (by decide) (by omega)
      have hsh : wrap64 ((2 : Int) ^ i) = ((2 ^ i : Nat) : Int) := by
        have h1 : ((2 : Int) ^ i) = ((2 ^ i : Nat) : Int) := by norm_cast
        rw [h1, wrapn _ (Nat.lt_of_le_of_lt hi16 (by decide))]
      have HNQ := Aside0.mk (fun (h : l' = 0) => HKN.out.inv.quiet (e := e) (p := p') (by have := HRE.out.1; rwa [h] at this))
      have HNP := Aside0.mk (fun (h : l' ≠ 0) => HKN.out.inv.pair h HRE.out)
      rw [HTL.out, ← HTK.out] at HNQ HNP
      generalize (2 : Nat) ^ i = t at *
      have hxor := xorn p' t (Nat.lt_trans hp62 (by decide)) (Nat.lt_of_le_of_lt hi16 (by decide))
      have hps : p' ^^^ t < 2 ^ 62 := Nat.xor_lt_two_pow hp62 (Nat.lt_of_le_of_lt hi16 (by decide))
      clear hi16
      generalize p' ^^^ t = ps at *
      by_cases hl0 : l' = 0
      · subst hl0
        have HN := Aside0.mk (HNQ.out rfl)
        have hx4 := extended_R (s := ps) hps hQB kq1 (Nat.le_trans hql (by omega)) HB3.out.size hsv3.q
        have hql2 := putB_len Q ps
        clear HNQ HNP hps
        have hc1 := hsv3.c1
        go_wp2_with fail
        refine hx4.mono ?_
        rintro e4 w4 ⟨v4, rfl, hb4, hR4⟩
        have HB4 := Aside0.mk (below_then HB3.out HB3.out.size hb4)
        have hsv4 := hsv3.below hb4
        have HQ := Aside0.mk (show ∃ A c, v4 = .slice A (putB Q ps).length c from by have := Kd.R_slice hR4; rwa [zs_length] at this)
        have hsv5 := Aside0.mk (hsv4.setQ hR4)
        have HB5 := Aside0.mk (HB4.out.setCell (p := ⟨w.heap.size, 1, none⟩) (Nat.le_refl _) v4)
        have HK5 : Aside0 (Know (es.take (i + 1)) P (putB Q ps) I2) := ⟨HN.out, HII.out.1, by rw [(HT.out (i + 1) (by omega)).2]; omega, by rw [(HT.out (i + 1) (by omega)).2]; omega, by rw [(HT.out (i + 1) (by omega)).2]; exact HII.out.2⟩
        clear hx4 hc1 hsv3 hR4 hb4
        generalize putB Q ps = Q2 at *
        obtain ⟨A4, c4, rfl⟩ := HQ.out
        have hc14 := hsv4.c1
        have hf14 := hsv4.fr 1
        clear hsv4
        go_wp2
        go_roundw
        case rel => exact ⟨i + 1, by omega, by go_num, ⟨_, _, _, _, _, _, hsv5.out, HK5.out⟩, HB5⟩
        case measure => simp [intOf]; omega
      · have hne : ((l' : Int) == 0) = false := by rw [beq_eq_false_iff_ne]; omega
        have HN := Aside0.mk (HNP.out hl0)
        clear HNQ HNP hps
        have hc0 := hsv3.c0
        have hp3 := Kd.R_slice hsv3.p
        rw [zsp_length] at hp3
        obtain ⟨Ap3, cp3, rfl⟩ := hp3
        have HSV3 := Aside0.mk hsv3
        have HZ : Aside0 (zsp P ++ [((l' : Int), (ps : Int))] = zsp (P ++ [(l', ps)])) := ⟨by rw [zsp_append]; rfl⟩
        clear hsv3 hl0
        go_wp2_with (first
          | ((with_reducible refine gate_builtin (b := .append) (xs := #[.tmp 51, .tmp 55]) rfl ?_); at_builtin; refine Kd.R_append kp (w0 := w) w.heap.size rfl (.tmp 51) (.tmp 55) 82 102 (.agg #[.int .i64 0, .int .i64 0]) 16 rfl Try.underlying82 info_pair rfl (by decide) (by omega) _ (zsp P) ((l' : Int), (ps : Int)) [.int .i64 (l' : Int), .int .i64 (ps : Int)] (fun _ => True) (fun _ => False) rfl rfl ?aP (fun _ hk => hk.elim) ?aF ?aO ?aB ?aS ?aL ?_; (case aP => exact ⟨_, _, rfl, rfl, rfl⟩); (case aF => exact (fun _ _ => trivial)); (case aO => exact HSV3.out.p); (case aB => exact HB3.out); (case aS => exact HB3.out.size); (case aL => rw [zsp_length]; omega); intro v4 w4 ho hb hg hat; clear hat; rw [HZ.out] at ho; obtain ⟨A4, c4, hv4⟩ := Kd.R_slice ho; subst hv4; have HG := Aside0.mk (HSV3.out.grown hg); have HO4 := Aside0.mk ho; have HB4 := Aside0.mk hb; have hc04 : w4.cell? ⟨w.heap.size, 0, none⟩ = some _ := (blk_cell HG.out.1 0).trans rfl; have hf04 := blk_frozen HG.out.1 0; clear ho hb hg))
        have hsv5 := Aside0.mk (Sv.mk (blk_put HG.out.1 0 _ rfl) (Kd.R_set HO4.out HG.out.1 (by decide) 0 _) (Kd.R_set HG.out.2.1 HG.out.1 (by decide) 0 _) (Kd.R_set HG.out.2.2 HG.out.1 (by decide) 0 _))
        have HB5 := Aside0.mk (HB4.out.setCell (p := ⟨w.heap.size, 0, none⟩) (Nat.le_refl _) (.slice A4 (zsp (P ++ [(l', ps)])).length c4))
        have HK5 : Aside0 (Know (es.take (i + 1)) (P ++ [(l', ps)]) Q I2) := ⟨HN.out, HII.out.1, by rw [(HT.out (i + 1) (by omega)).2, List.length_append, List.length_singleton]; omega, by rw [(HT.out (i + 1) (by omega)).2]; omega, by rw [(HT.out (i + 1) (by omega)).2]; exact HII.out.2⟩
        go_roundw
        case rel => exact ⟨i + 1, by omega, by go_num, ⟨_, _, _, _, _, _, hsv5.out, HK5.out⟩, HB5⟩
        case measure => simp [intOf]; omega
    · obtain rfl : i = n := by omega
      obtain ⟨pv, qv, iv, P, Q, I, hsv, hkn⟩ := HK.out
      rw [HA.out] at hkn
      have HSV := Aside0.mk hsv
      have HKN := Aside0.mk hkn
      clear HK hsv hkn
      go_wp2
      go_ret
      exact ⟨_, _, _, _, _, _, _, rfl, HSV.out, HKN.out, HB.out⟩
end Go.Proofs.Ytgnjndkbccakgaa.Sol
