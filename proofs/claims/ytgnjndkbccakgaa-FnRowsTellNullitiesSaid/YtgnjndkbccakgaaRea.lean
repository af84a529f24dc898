/- What a solver's reach computes: the program's walk, once: slices.IndexFunc over pairs, its closure, the loop. -/
import Derived.Test.YtgnjndkbccakgaaRed
import Derived.Test.YtgnjndkbccakgaaKer
namespace Go.Proofs.Ytgnjndkbccakgaa.Rea
open Go.RowKit Go.Proofs.Ytgnjndkbccakgaa.PBase Go.Proofs.YtgnjndkbccakgaaW.PrintWords Go.Proofs.YtgnjndkbccakgaaW.PrintLast Go.Proofs.YtgnjndkbccakgaaW.PrintMore
open Go.Proofs.Ytgnjndkbccakgaa.Lin Go.Proofs.Ytgnjndkbccakgaa.Bit Go.Proofs.Ytgnjndkbccakgaa.Gra Go.Proofs.Ytgnjndkbccakgaa.Red Go.Proofs.Ytgnjndkbccakgaa.Ker

def zsp (l : List (Nat × Nat)) : List (Int × Int) := l.map fun b => ((b.1 : Int), (b.2 : Int))
theorem zsp_length (l : List (Nat × Nat)) : (zsp l).length = l.length := by simp [zsp]
theorem zsp_append (l m : List (Nat × Nat)) : zsp (l ++ m) = zsp l ++ zsp m := by simp [zsp]
abbrev kp : Kd (Int × Int) := Kd.pair (Kd.int .i64) (Kd.int .i64)
theorem pair_at {w : World} {A : Option Addr} {n : Nat} {B : List (Nat × Nat)} (h : kp.C w A n (zsp B)) (hn : n = B.length) (i : Nat) (hi : i < n) :
    ∃ b off, A = some ⟨b, off, none⟩ ∧ w.cell? ⟨b, off + i * 2, none⟩ = some (.int .i64 ((B.getD i (0, 0)).1 : Nat)) ∧ w.cell? ⟨b, off + i * 2 + 1, none⟩ = some (.int .i64 ((B.getD i (0, 0)).2 : Nat)) := by
  obtain ⟨ad0, c', hA', hl', _, hc'⟩ := Kd.C_get h (0, 0) 0 (by omega) (by omega)
  have hsp : ad0.spot = none := by
    have hl2 : c'.length = 2 := hl'
    have h1 := hc' 0 _ (List.getElem?_eq_getElem (by omega))
    rw [show (0 : Int).toNat * kp.sz + 0 = 0 from rfl] at h1
    have := World.cell?_spot h1
    simpa [Addr.add] using this
  obtain ⟨ad, c, hA, _, hk, hc⟩ := Kd.C_get h (0, 0) (i : Int) (by omega) (by omega)
  obtain ⟨c0, c1, rfl, e0, e1⟩ := hk
  have e0' : c0 = [Value.int .i64 ((zsp B).getD (i : Int).toNat (0, 0)).1] := e0
  have e1' : c1 = [Value.int .i64 ((zsp B).getD (i : Int).toNat (0, 0)).2] := e1
  have hg : (zsp B).getD (i : Int).toNat (0, 0) = (((B.getD i (0, 0)).1 : Int), ((B.getD i (0, 0)).2 : Int)) := by
    rw [Int.toNat_natCast, gD_lt _ _ (by rw [zsp_length]; omega), gD_lt _ _ (by omega)]
    simp [zsp]
  rw [hg] at e0' e1'
  subst e0' e1'
  have hs : kp.sz = 2 := rfl
  obtain rfl : ad0 = ad := by rw [hA'] at hA; exact Option.some.inj hA
  obtain ⟨b, off, sp⟩ := ad0
  dsimp only at hsp
  subst hsp
  refine ⟨b, off, hA, ?_, ?_⟩
  · have := hc 0 _ rfl
    rwa [Int.toNat_natCast, hs, Nat.add_zero, Addr.add_lit] at this
  · have := hc 1 _ rfl
    rwa [Int.toNat_natCast, hs, Addr.add_lit, ← Nat.add_assoc] at this

/-- A function value that answers p of each of these pairs, wherever what lay in w lies as it did. -/
def PairOK (g : Nat) (lb : Array Value) (B : List (Nat × Nat)) (p : Nat × Nat → Bool) (w : World) : Prop := ∀ W x, x ∈ B → Below w.heap.size w W →
  Calls Try.prog g (#[.agg #[.int .i64 (x.1 : Nat), .int .i64 (x.2 : Nat)]] ++ lb) W fun e w' => e = .returned (.bool (p x)) ∧ Below W.heap.size W w'
set_option maxRecDepth 100000 in
set_option maxHeartbeats 2000000 in
theorem indexPair_run (g : Nat) (lb : Array Value) (B : List (Nat × Nat)) (p : Nat × Nat → Bool) (eg : ∀ args w, (callFunc g args).run Try.prog w = .ok (.enter g args) w) (A : Option Addr) (c : Nat) (w : World)
    (hp : PairOK g lb B p w) (hr : kp.C w A B.length (zsp B)) (hc : B.length ≤ c) (hl : B.length ≤ 1000000) :
    Calls Try.prog 102 #[.slice A B.length c, .func (.func g) #[] lb] w fun e w' =>
      ((e = .returned (.int .i64 (-1)) ∧ ∀ b ∈ B, p b = false) ∨ (∃ i : Nat, i < B.length ∧ e = .returned (.int .i64 (i : Int)) ∧ p (B.getD i (0, 0)) = true)) ∧ Below w.heap.size w w' := by
  have HP := Aside0.mk hp
  have HC := Aside0.mk (fun (W : World) (h : Below w.heap.size w W) i hi => pair_at (Kd.C_below hr h) rfl i hi)
  have HM : Aside0 (∀ i, i < B.length → B.getD i (0, 0) ∈ B) := ⟨fun i hi => by rw [gD_lt _ _ hi]; exact List.getElem_mem hi⟩
  have HN : Aside0 ((∀ i, i < B.length → p (B.getD i (0, 0)) = false) → ∀ b ∈ B, p b = false) := ⟨fun h b hb => by
    obtain ⟨i, hi, rfl⟩ := List.getElem_of_mem hb
    have := h i hi
    rwa [gD_lt _ _ hi] at this⟩
  clear hp hr
  generalize hn : B.length = n at *
  clear hn
  go_enter Try.func102, Try.ntmps102
  go_wp2
  go_loopw [8] (fun s wr => ∃ i : Nat, i ≤ n ∧ s = .int .i64 i ∧ Aside0 (∀ j, j < i → p (B.getD j (0, 0)) = false) ∧ Aside0 (Below w.heap.size w wr)) (fun s _ => n - (intOf s).toNat)
  case atStart => exact ⟨0, Nat.zero_le _, rfl, ⟨fun j h => absurd h (Nat.not_lt_zero _)⟩, ⟨Below.refl _ _⟩⟩
  case round =>
    obtain ⟨i, hi, rfl, HJ, HB⟩ := hrel
    by_cases hlt : i < n
    · obtain ⟨ab, ao, e1, hx1, hx2⟩ := HC.out wr HB.out i hlt
      subst e1
      have hcall := HP.out wr (B.getD i (0, 0)) (HM.out i hlt) HB.out
      have HW : Aside0 (∀ w', Below wr.heap.size wr w' → Below w.heap.size w w') := ⟨fun w' h => below_then HB.out HB.out.size h⟩
      cases hb : p (B.getD i (0, 0)) with
      | true =>
        have HT := Aside0.mk hb
        rw [hb] at hcall
        clear hb
        generalize hxx : B.getD i (0, 0) = x at *
        have HX := Aside0.mk hxx
        clear hxx
        obtain ⟨x1, x2⟩ := x
        dsimp only at hx1 hx2 hcall
        go_wp2_with (go_at_fn g; refine hcall.mono ?_; rintro e w' ⟨rfl, hbb⟩)
        go_ret
        exact ⟨.inr ⟨i, hlt, rfl, by rw [HX.out]; exact HT.out⟩, HW.out _ hbb⟩
      | false =>
        rw [hb] at hcall
        have HF := Aside0.mk hb
        clear hb
        generalize hxx : B.getD i (0, 0) = x at *
        have HX := Aside0.mk hxx
        clear hxx
        obtain ⟨x1, x2⟩ := x
        dsimp only at hx1 hx2 hcall
        go_wp2_with (go_at_fn g; refine hcall.mono ?_; rintro e w' ⟨rfl, hbb⟩)
        go_roundw
        case rel => exact ⟨i + 1, by omega, by go_num, ⟨fun j hj => by
          by_cases e : j = i
          · subst e; rw [HX.out]; exact HF.out
          · exact HJ.out j (by omega)⟩, ⟨HW.out _ hbb⟩⟩
        case measure => simp [intOf]; omega
    · obtain rfl : i = n := by omega
      go_wp2
      go_ret
      exact ⟨.inl ⟨rfl, HN.out fun j hj => HJ.out j hj⟩, HB.out⟩

/-- The closure of reach: the greatest element of a pair's effect is that of the lights. -/
theorem rea_pred (S : Nat) (l : Nat) (hl : 1 ≤ l) (hl2 : l < 2 ^ 62) (w : World) (hS : S < w.heap.size) (hcell : w.cell? ⟨S, 0, none⟩ = some (.int .i64 (l : Int))) (B : List (Nat × Nat)) (hB : ∀ b ∈ B, 1 ≤ b.1 ∧ b.1 < 2 ^ 62) :
    PairOK 103 #[.pointer (some ⟨S, 0, none⟩)] B (fun b => decide (b.1.log2 = l.log2)) w := fun W x hx hb => by
  have hcc : W.cell? ⟨S, 0, none⟩ = some (.int .i64 (l : Int)) := (hb.cell (p := ⟨S, 0, none⟩) hS).trans hcell
  obtain ⟨hx1, hx2⟩ := hB x hx
  have h1 := fun W => top_calls x.1 W hx1 hx2
  have h2 := fun W => top_calls l W hl hl2
  have HE : Aside0 (decide (x.1.log2 = l.log2) = (((x.1.log2 : Nat) : Int) == ((l.log2 : Nat) : Int))) := ⟨by
    by_cases e : x.1.log2 = l.log2
    · rw [decide_eq_true e, e]; simp
    · rw [decide_eq_false e, eq_comm, beq_eq_false_iff_ne]; omega⟩
  obtain ⟨x1, x2⟩ := x
  dsimp only at HE h1 hx1 hx2
  show Calls Try.prog 103 #[.agg #[.int .i64 (x1 : Nat), .int .i64 (x2 : Nat)], .pointer (some ⟨S, 0, none⟩)] W _
  clear hx hb hcell hB
  dsimp only
  rw [HE.out]
  clear HE
  generalize l.log2 = tl at *
  generalize x1.log2 = tx at *
  have hS2 : S < W.heap.size := World.block_lt_of_cell? W _ hcc
  have hcc2 : (W.alloc (.cells #[.int .i64 (x1 : Nat), .int .i64 (x2 : Nat)] 102)).cell? ⟨S, 0, none⟩ = some (.int .i64 (l : Int)) := (((Below.refl W.heap.size W).alloc (Nat.le_refl _) _).cell (p := ⟨S, 0, none⟩) hS2).trans hcc
  go_enter Try.func103, Try.ntmps103
  go_wp2_with fail
  go_quiet ((go_at_call 99; first | ((with_reducible refine (h1 _).mono ?_); rintro _ _ ⟨he, hd⟩; exact ⟨he, ig_quiet hd⟩) | ((with_reducible refine (h2 _).mono ?_); rintro _ _ ⟨he, hd⟩; exact ⟨he, ig_quiet hd⟩)))
  go_wp2
  go_ret
  exact ⟨rfl, pw_below_drewN (below_alloc (Below.refl _ _) _) _⟩

theorem down_lt {a b : Nat} (ha : a ≠ 0) (hb : b ≠ 0) (h : b.log2 = a.log2) : a ^^^ b < a := by
  have h1 := drop_bit (i := a.log2) (x := a) (p := b) Nat.lt_log2_self (by rw [← h]; exact Nat.lt_log2_self) (top_bit ha) (by rw [← h]; exact top_bit hb)
  exact Nat.lt_of_lt_of_le h1 (Nat.log2_self_le ha)
set_option maxRecDepth 100000 in
set_option maxHeartbeats 4000000 in
/-- reach, called: what the pairs leave of lights, and the presses. -/
theorem reach_calls (S : Nat) (A : Option Addr) (cap : Nat) (B : List (Nat × Nat)) (l : Nat) (hl : l < 2 ^ 62) (hB : ∀ b ∈ B, (1 ≤ b.1 ∧ b.1 < 2 ^ 62) ∧ b.2 < 2 ^ 62) (hlen : B.length ≤ 1000000) (hcap : B.length ≤ cap)
    (w : World) (hcell : w.cell? ⟨S, 0, none⟩ = some (.slice A B.length cap)) (hC : kp.C w A B.length (zsp B)) :
    Calls Try.prog 93 #[.pointer (some ⟨S, 0, none⟩), .int .i64 (l : Int)] w fun e w' => ∃ l' p' : Nat, e = .returned (.tuple #[.int .i64 (l' : Int), .int .i64 (p' : Int)]) ∧ (Reached B l l' p' ∧ l' < 2 ^ 62 ∧ p' < 2 ^ 62) ∧ Below w.heap.size w w' := by
  have hS : S < w.heap.size := World.block_lt_of_cell? w _ hcell
  go_enter Try.func93, Try.ntmps93
  go_wp2
  go_loopw [6] (fun v wr => ∃ lc pc : Nat, v = .int .i64 (pc : Int) ∧ (lc < 2 ^ 62 ∧ pc < 2 ^ 62) ∧ Aside0 (Sq B (l ^^^ lc) pc) ∧ (wr.cell? ⟨w.heap.size, 0, none⟩ = some (.int .i64 (lc : Int)) ∧ wr.frozen? ⟨w.heap.size, 0, none⟩ = false) ∧ Aside0 (Below w.heap.size w wr)) (fun _ wr => (intOf ((wr.cell? ⟨w.heap.size, 0, none⟩).getD undef)).toNat)
  case atStart => exact ⟨l, 0, rfl, ⟨hl, by decide⟩, ⟨by rw [Nat.xor_self]; exact Sq.zero B⟩, by simp, ⟨below_alloc (Below.refl _ _) _⟩⟩
  case round =>
    obtain ⟨lc, pc, rfl, ⟨hlc, hpc⟩, HS, ⟨hbox, hfr⟩, HB⟩ := hrel
    by_cases h0 : lc = 0
    · subst h0
      go_wp2
      go_ret2
      exact ⟨0, pc, rfl, ⟨⟨HS.out, .inl rfl⟩, by decide, hpc⟩, HB.out⟩
    · have hne : ((lc : Int) != 0) = true := by simp; omega
      have hL : w.heap.size < wr.heap.size := World.block_lt_of_cell? wr _ hbox
      have hcl : wr.cell? ⟨S, 0, none⟩ = some (.slice A B.length cap) := (HB.out.cell (p := ⟨S, 0, none⟩) hS).trans hcell
      have hcall := indexPair_run 103 #[.pointer (some ⟨w.heap.size, 0, none⟩)] B (fun b => decide (b.1.log2 = lc.log2)) (enters_of Try.func103 (by kernel_rfl) rfl) A cap wr (rea_pred w.heap.size lc (by omega) hlc wr hL hbox B (fun b hb => (hB b hb).1)) (Kd.C_below hC HB.out) hcap hlen
      have H0 := Aside0.mk h0
      go_wp2_with fail
      refine hcall.mono ?_
      rintro e w1 ⟨(⟨rfl, hnone⟩ | ⟨j, hj, rfl, hyes⟩), hb⟩
      · have hbox1 : w1.cell? ⟨w.heap.size, 0, none⟩ = some (.int .i64 (lc : Int)) := (hb.cell (p := ⟨w.heap.size, 0, none⟩) hL).trans hbox
        go_wp2
        go_ret2
        exact ⟨lc, pc, rfl, ⟨⟨HS.out, .inr fun b hb => by simpa using hnone b hb⟩, hlc, hpc⟩, below_then HB.out HB.out.size hb⟩
      · have hbox1 : w1.cell? ⟨w.heap.size, 0, none⟩ = some (.int .i64 (lc : Int)) := (hb.cell (p := ⟨w.heap.size, 0, none⟩) hL).trans hbox
        have hfr1 : w1.frozen? ⟨w.heap.size, 0, none⟩ = false := (hb.frozen (p := ⟨w.heap.size, 0, none⟩) hL).trans hfr
        have hcl1 : w1.cell? ⟨S, 0, none⟩ = some (.slice A B.length cap) := (hb.cell (p := ⟨S, 0, none⟩) (show S < wr.heap.size by omega)).trans hcl
        have HB1 := Aside0.mk (below_then HB.out HB.out.size hb)
        obtain ⟨ab, ao, e1, hx1, hx2⟩ := pair_at (Kd.C_below hC HB1.out) rfl j hj
        have hab : ab < w.heap.size := by
          obtain ⟨ab', ao', e2, hy1, _⟩ := pair_at hC rfl j hj
          rw [e1] at e2
          injection e2 with e2
          injection e2 with e2 _ _
          rw [e2]
          exact World.block_lt_of_cell? w _ hy1
        subst e1
        have hLS : w.heap.size ≠ S := by omega
        have hLa : w.heap.size ≠ ab := by omega
        obtain ⟨⟨hb1, hb2⟩, hb3⟩ := hB _ (show B.getD j (0, 0) ∈ B by rw [gD_lt _ _ hj]; exact List.getElem_mem hj)
        have hmem := Sq.mem (show B.getD j (0, 0) ∈ B by rw [gD_lt _ _ hj]; exact List.getElem_mem hj)
        generalize B.getD j (0, 0) = x at *
        obtain ⟨x1, x2⟩ := x
        dsimp only at hx1 hx2 hb1 hb2 hb3 hmem hyes
        have hxor1 := xorn lc x1 (by omega) (by omega)
        have hxor2 := xorn pc x2 (by omega) (by omega)
        have HS2 := Aside0.mk (HS.out.add hmem)
        have HLT := Aside0.mk (down_lt (show lc ≠ 0 from h0) (show x1 ≠ 0 by omega) (of_decide_eq_true hyes))
        have HBX := Aside0.mk hbox
        clear hC hB hmem hyes hbox hfr hcl hcall
        have hj0 : decide ((j : Int) < 0) = false := decide_eq_false (by omega)
        go_wp2
        go_region
        all_goals
          go_wp2
          have hc9 : (w1.setCell ⟨w.heap.size, 0, none⟩ (.int .i64 ((lc ^^^ x1 : Nat) : Int))).drew.cell? ⟨w.heap.size, 0, none⟩ = some (.int .i64 ((lc ^^^ x1 : Nat) : Int)) := World.cell?_setCell_same' _ _ _ (by rw [hbox1]; rfl)
          refine ⟨⟨lc ^^^ x1, pc ^^^ x2, rfl, ⟨Nat.xor_lt_two_pow hlc hb2, Nat.xor_lt_two_pow hpc hb3⟩, ⟨by rw [← Nat.xor_assoc]; exact HS2.out⟩, ⟨hc9, ?_⟩, ⟨below_drew1 (HB1.out.setCell (p := ⟨w.heap.size, 0, none⟩) (Nat.le_refl _) _)⟩⟩, ?_⟩
          · show (w1.setCell ⟨w.heap.size, 0, none⟩ _).frozen? _ = false
            rw [World.frozen?_setCell]; exact hfr1
          · rw [hc9, HBX.out]
            simp only [Option.getD_some, intOf, Int.toNat_natCast]
            exact HLT.out
end Go.Proofs.Ytgnjndkbccakgaa.Rea
