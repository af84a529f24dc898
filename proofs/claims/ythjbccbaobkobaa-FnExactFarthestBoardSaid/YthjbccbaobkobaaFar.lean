/- What FarthestBoard computes: the program's walk over its map, once. -/
import Derived.Test.YthjbccbaobkobaaEls
import Derived.Test.YthjbccbaobkobaaPBas4x
import Derived.Maps.OwnSet
namespace Go.Proofs.Ythjbccbaobkobaa.Far
open Go.RowKit Go.Proofs.Ythjbccbaobkobaa.PBase Go.Proofs.YthjbccbaobkobaaW.PrintWords Go.Proofs.YthjbccbaobkobaaW.PrintLast Go.Proofs.YthjbccbaobkobaaW.PrintMore
open Go.Proofs.Ythjbccbaobkobaa.Lin Go.Proofs.Ythjbccbaobkobaa.Bit Go.Proofs.Ythjbccbaobkobaa.Gra Go.Proofs.Ythjbccbaobkobaa.Red Go.Proofs.Ythjbccbaobkobaa.Ker Go.Proofs.Ythjbccbaobkobaa.Ext Go.Proofs.Ythjbccbaobkobaa.Rea Go.Proofs.Ythjbccbaobkobaa.Sol Go.Proofs.Ythjbccbaobkobaa.Sog Go.Proofs.Ythjbccbaobkobaa.Exd Go.Proofs.Ythjbccbaobkobaa.Pat Go.Proofs.Ythjbccbaobkobaa.Els
open Go.Maps

/-! ### The plain words -/
/-- The lesser of a number and one that may be there. -/
def lesser (p : Nat) : Option Nat → Nat
  | none => p
  | some m => if p < m then p else m
/-- The fewest presses that come to some lights, among the presses below k. -/
def few (e : Nat → Nat) : Nat → Nat → Option Nat
  | 0, _ => none
  | k + 1, l => if e k = l then some (lesser (Pop.pop 16 k) (few e k l)) else few e k l
/-- The first lights below k that want the most presses, and how many. -/
def far (f : Nat → Option Nat) : Nat → Nat × Int
  | 0 => (0, -1)
  | k + 1 => match f k with
    | none => far f k
    | some m => if (far f k).2 < (m : Int) then (k, (m : Int)) else far f k
theorem few_succ (e : Nat → Nat) (k l : Nat) : few e (k + 1) l = if e k = l then some (lesser (Pop.pop 16 k) (few e k l)) else few e k l := rfl
theorem few_le (e : Nat → Nat) : ∀ k l m, few e k l = some m → m ≤ 16
  | 0, _, _, h => by cases h
  | k + 1, l, m, h => by
    rw [few_succ] at h
    split at h
    · obtain rfl := Option.some.inj h
      have hp := Pop.pop_le 16 k
      cases hf : few e k l with
      | none => exact hp
      | some m1 =>
        have := few_le e k l m1 hf
        unfold lesser
        dsimp only
        split <;> omega
    · exact few_le e k l m h
theorem far_lo (f : Nat → Option Nat) : ∀ k, -1 ≤ (far f k).2
  | 0 => Int.le_refl (-1)
  | k + 1 => by
    have ih := far_lo f k
    unfold far
    split
    · exact ih
    · split
      · show (-1 : Int) ≤ ((_ : Nat) : Int); omega
      · exact ih
theorem far_at (f : Nat → Option Nat) : ∀ k, (far f k).1 ≤ k
  | 0 => Nat.le_refl _
  | k + 1 => by
    have ih := far_at f k
    unfold far
    split
    · omega
    · split
      · show k ≤ k + 1; omega
      · omega
theorem far_hi (f : Nat → Option Nat) (hf : ∀ k m, f k = some m → m ≤ 16) : ∀ k, (far f k).2 ≤ 16
  | 0 => (show (-1 : Int) ≤ 16 from by decide)
  | k + 1 => by
    have ih := far_hi f hf k
    unfold far
    split
    · exact ih
    · rename_i m hm
      split
      · show ((m : Nat) : Int) ≤ 16
        have := hf k m hm
        omega
      · exact ih
def fbF (l : List Int) (own : Bool) : Int × Int × Bool :=
  if goodB l then (if l.length ≤ 10 then (((far (few (eff (tn l) own) (2 ^ l.length)) (2 ^ l.length)).1 : Int), (far (few (eff (tn l) own) (2 ^ l.length)) (2 ^ l.length)).2, true) else (0, 0, false)) else (0, 0, false)

/-! ### A map that tells some numbers -/
section
variable {H : Type}
abbrev ky (y : Nat) : Lit := .int .i64 (y : Int)
structure Rd (D : DataW H) (f : Nat → Option Nat) : Prop where
  isMap : IsMap D
  has : ∀ y, has D (ky y) = (f y).isSome
  at' : ∀ y m, f y = some m → D.atKey (ky y) (.lit (.int .i64 0)) = .lit (.int .i64 (m : Int))
theorem Rd.start : Rd (.map [] : DataW H) (fun _ => none) := ⟨isMap_empty, fun _ => rfl, fun _ _ h => by cases h⟩
theorem Rd.congr {D : DataW H} {f g : Nat → Option Nat} (h : Rd D f) (hg : ∀ y, g y = f y) : Rd D g := by
  have : g = f := funext hg
  rw [this]; exact h
theorem Rd.put {D : DataW H} {f g : Nat → Option Nat} (h : Rd D f) (y p : Nat) (h1 : g y = some p) (h2 : ∀ z, z ≠ y → g z = f z) : Rd (D.put (ky y) (.lit (.int .i64 (p : Int)))) g := by
  have hk : WideAt.IsKeyLit (ky y) := trivial
  have hne : ∀ z, z ≠ y → ky z ≠ ky y := by
    intro z hz e
    have e1 : (z : Int) = (y : Int) := by injection e
    exact hz (by omega)
  refine ⟨h.isMap.put _ _, fun z => ?_, fun z m hz => ?_⟩
  · by_cases e : z = y
    · subst e
      rw [has_put_same h.isMap hk, h1]; rfl
    · rw [has_put_other (hne z e), h2 z e, h.has]
  · by_cases e : z = y
    · subst e
      rw [h1] at hz
      obtain rfl := Option.some.inj hz
      exact atKey_put_same h.isMap hk _ _
    · rw [atKey_put_other (hne z e)]
      exact h.at' z m (by rw [← h2 z e]; exact hz)
theorem lookS {P : Program} (w : World) {ops : Array Oper} {rest : List Oper} {o : Oper} {a : Act} {Q : Exit → Act → World → Prop}
    (hg : o.guard = none) (m x : Operand) (t : TypeId) (hop : o.op = Op.lookup t m x true)
    (k e : TypeId) (K : Keyed P k) (ht : P.underlying t = some (.map k e)) (he : P.underlying e = some (.int .i64)) (hz : (zeroValue e).run P w = .ok (.int .i64 0) w) (b n : Nat) (D : DataW H)
    (hm : a.eval m = .map (some b)) (hown : w.ownsMap P k (plainElem P e) b n D) (f : Nat → Option Nat) (hrd : Rd D f) (y : Nat) (hx : a.eval x = .int .i64 (y : Int)) (hkey : keyOf P k (.int .i64 (y : Int)) = some (ky y))
    (p : Nat) (hf : f y = some p) (hK : wpList P ops Q rest (a.put o.dst (.tuple #[.int .i64 (p : Int), .bool true])) w) : wpList P ops Q (o :: rest) a w :=
  wpList_lookup_own_ok_int w hg m x t hop k e .i64 K ht he hz b n D hm hown _ _ hx hkey (fun c hat _ => by
    rw [hrd.at' y p hf] at hat
    have hc : (p : Int) = c := by injection hat with h1; injection h1
    rw [hrd.has, hf, ← hc]
    exact hK)
theorem lookN {P : Program} (w : World) {ops : Array Oper} {rest : List Oper} {o : Oper} {a : Act} {Q : Exit → Act → World → Prop}
    (hg : o.guard = none) (m x : Operand) (t : TypeId) (hop : o.op = Op.lookup t m x true)
    (k e : TypeId) (K : Keyed P k) (ht : P.underlying t = some (.map k e)) (he : P.underlying e = some (.int .i64)) (hz : (zeroValue e).run P w = .ok (.int .i64 0) w) (b n : Nat) (D : DataW H)
    (hm : a.eval m = .map (some b)) (hown : w.ownsMap P k (plainElem P e) b n D) (f : Nat → Option Nat) (hrd : Rd D f) (y : Nat) (hx : a.eval x = .int .i64 (y : Int)) (hkey : keyOf P k (.int .i64 (y : Int)) = some (ky y))
    (hf : f y = none) (hK : wpList P ops Q rest (a.put o.dst (.tuple #[.int .i64 0, .bool false])) w) : wpList P ops Q (o :: rest) a w :=
  wpList_lookup_own_ok_int w hg m x t hop k e .i64 K ht he hz b n D hm hown _ _ hx hkey (fun c hat _ => by
    have hn : Maps.has D (ky y) = false := by rw [hrd.has, hf]; rfl
    rw [atKey_of_not_has hn] at hat
    have hc : (0 : Int) = c := by injection hat with h1; injection h1
    rw [hn, ← hc]
    exact hK)
/-- Block b is a map that tells f. -/
def Tells (w : World) (b n : Nat) (f : Nat → Option Nat) : Prop := ∃ D : DataW Unit, w.ownsMap Try.prog 3 (plainElem Try.prog 3) b n D ∧ Rd D f
theorem Tells.below {w w' : World} {B b n : Nat} {f : Nat → Option Nat} (h : Tells w b n f) (hb : Below B w w') (hB : b < B) : Tells w' b n f := by
  obtain ⟨D, ⟨es, clock, h1, r⟩, hr⟩ := h
  exact ⟨D, ⟨es, clock, (hb.block b hB).trans h1, r⟩, hr⟩
theorem Tells.drewN {w : World} {b n : Nat} {f : Nat → Option Nat} (h : Tells w b n f) (q : Nat) : Tells (w.drewN q) b n f := h
theorem Tells.lt {w : World} {b n : Nat} {f : Nat → Option Nat} (h : Tells w b n f) : b < w.heap.size := by
  obtain ⟨D, h, _⟩ := h
  exact h.lt
theorem Tells.mono {w : World} {b n n' : Nat} {f : Nat → Option Nat} (h : Tells w b n f) (hn : n ≤ n') : Tells w b n' f := by
  obtain ⟨D, h, r⟩ := h
  exact ⟨D, h.mono hn, r⟩
end
theorem lawI : Keyed Try.prog 3 := int_keyed Try.underlying3
theorem zeroI (w : World) : (zeroValue 3).run Try.prog w = .ok (.int .i64 0) w := by kernel_rfl
theorem keyI (y : Nat) (h : y < 2 ^ 62) : keyOf Try.prog 3 (.int .i64 (y : Int)) = some (ky y) := keyOf_int_mk Try.underlying3 (WalkArith.wf_i64 (by omega))
/-- A lookup of a number that is there. -/
theorem tellS (w : World) {ops : Array Oper} {rest : List Oper} {o : Oper} {a : Act} {Q : Exit → Act → World → Prop} {b n : Nat} {f : Nat → Option Nat} (h : Tells w b n f)
    (hg : o.guard = none) (m x : Operand) (hop : o.op = Op.lookup 75 m x true) (hm : a.eval m = .map (some b)) (y : Nat) (hy : y < 2 ^ 62) (hx : a.eval x = .int .i64 (y : Int)) (p : Nat) (hf : f y = some p)
    (hK : wpList Try.prog ops Q rest (a.put o.dst (.tuple #[.int .i64 (p : Int), .bool true])) w) : wpList Try.prog ops Q (o :: rest) a w := by
  obtain ⟨D, ho, hr⟩ := h
  exact lookS w hg m x 75 hop 3 3 lawI Try.underlying75 Try.underlying3 (zeroI _) b n D hm ho f hr y hx (keyI y hy) p hf hK
theorem tellN (w : World) {ops : Array Oper} {rest : List Oper} {o : Oper} {a : Act} {Q : Exit → Act → World → Prop} {b n : Nat} {f : Nat → Option Nat} (h : Tells w b n f)
    (hg : o.guard = none) (m x : Operand) (hop : o.op = Op.lookup 75 m x true) (hm : a.eval m = .map (some b)) (y : Nat) (hy : y < 2 ^ 62) (hx : a.eval x = .int .i64 (y : Int)) (hf : f y = none)
    (hK : wpList Try.prog ops Q rest (a.put o.dst (.tuple #[.int .i64 0, .bool false])) w) : wpList Try.prog ops Q (o :: rest) a w := by
  obtain ⟨D, ho, hr⟩ := h
  exact lookN w hg m x 75 hop 3 3 lawI Try.underlying75 Try.underlying3 (zeroI _) b n D hm ho f hr y hx (keyI y hy) hf hK
theorem tellPut (w : World) {ops : Array Oper} {rest : List Oper} {o : Oper} {a : Act} {Q : Exit → Act → World → Prop} {b n : Nat} {f : Nat → Option Nat} (h : Tells w b n f) (g : Nat → Option Nat)
    (hg : o.guard = none) (m x v : Operand) (hop : o.op = Op.mapUpdate 75 m x v) (hm : a.eval m = .map (some b)) (hn : n < 2000) (y : Nat) (hy : y < 2 ^ 62) (hx : a.eval x = .int .i64 (y : Int)) (p : Nat) (hp : p < 2 ^ 62) (hv : a.eval v = .int .i64 (p : Int))
    (h1 : g y = some p) (h2 : ∀ z, z ≠ y → g z = f z)
    (hK : ∀ w', Tells w' b (n + 1) g → w.grownBy w' (some b) → wpList Try.prog ops Q rest (a.put o.dst undef) w') : wpList Try.prog ops Q (o :: rest) a w := by
  obtain ⟨D, ho, hr⟩ := h
  exact wpList_mapUpdate_own w hg m x v 75 hop 3 3 lawI Try.underlying75 _ b n D hm ho (by unfold maxLen; omega) _ _ _ hx hv (keyI y hy) _ [] (plainElem_int Try.underlying3 (WalkArith.wf_i64 (by omega)))
    (fun w' ho' hgr => hK w' ⟨_, ho', hr.put y p h1 h2⟩ hgr)
end Go.Proofs.Ythjbccbaobkobaa.Far

/- What FarthestBoard computes: the program's walk over its map, once. -/
namespace Go.Proofs.Ythjbccbaobkobaa.Faw
open Go.RowKit Go.Proofs.Ythjbccbaobkobaa.PBase Go.Proofs.YthjbccbaobkobaaW.PrintWords Go.Proofs.YthjbccbaobkobaaW.PrintLast Go.Proofs.YthjbccbaobkobaaW.PrintMore
open Go.Proofs.Ythjbccbaobkobaa.Lin Go.Proofs.Ythjbccbaobkobaa.Bit Go.Proofs.Ythjbccbaobkobaa.Gra Go.Proofs.Ythjbccbaobkobaa.Red Go.Proofs.Ythjbccbaobkobaa.Ker Go.Proofs.Ythjbccbaobkobaa.Ext Go.Proofs.Ythjbccbaobkobaa.Rea Go.Proofs.Ythjbccbaobkobaa.Sol Go.Proofs.Ythjbccbaobkobaa.Sog Go.Proofs.Ythjbccbaobkobaa.Exd Go.Proofs.Ythjbccbaobkobaa.Pat Go.Proofs.Ythjbccbaobkobaa.Els Go.Proofs.Ythjbccbaobkobaa.Far

theorem effect_calls (A : Option Addr) (c : Nat) (m : List Nat) (own : Bool) (hg : GoodG m) (hc : (zs m).length ≤ c) (x : Nat) (hx : x < 2 ^ 63) (w : World) (hC : ki.C w A (zs m).length (zs m)) :
    Calls Try.prog 66 #[.agg #[.slice A (zs m).length c, .bool own], .int .i64 (x : Int)] w fun e w' => e = .returned (.int .i64 ((eff m own x : Nat) : Int)) ∧ Below w.heap.size w w' :=
  PBas4.impl_Graph_effect.calls (m.length + 1) A c (zs m) own (x : Int) _ w hC hc (LemBas4.eff_f m hg own x hx (m.length + 1) (by omega))

set_option maxRecDepth 100000 in
set_option maxHeartbeats 4000000 in
theorem fb_calls (A : Option Addr) (c : Nat) (l : List Int) (own : Bool) (w : World) (hC : ki.C w A l.length l) (hc : l.length ≤ c) :
    Calls Try.prog 34 #[.agg #[.slice A l.length c, .bool own]] w fun e w' => e = .returned (.tuple #[.int .i64 (fbF l own).1, .int .i64 (fbF l own).2.1, .bool (fbF l own).2.2]) ∧ Below w.heap.size w w' := by
  have hu := Try.underlying28
  have hgw := impl_isGraph.calls A c l own _ (w.alloc (.cells #[.slice A l.length c, .bool own] 28)) (Kd.C_alloc hC _) hc rfl
  cases hG : goodB l with
  | false =>
    have HW : Aside0 (fbF l own = (0, 0, false)) := ⟨by unfold fbF; rw [hG]; rfl⟩
    rw [hG] at hgw
    clear hC hG
    generalize l.length = n at *
    go_enter Try.func34, Try.ntmps34
    go_wp2_with fail
    refine hgw.mono ?_
    rintro e w' ⟨rfl, hb⟩
    go_wp2
    go_ret3
    exact ⟨by rw [HW.out]; rfl, below_then (below_alloc (Below.refl _ _) _) (by simp) hb⟩
  | true =>
    have HOK := Aside0.mk hG
    rw [hG] at hgw
    obtain ⟨m, rfl, hgood⟩ := good_zs hG
    have HE := Aside0.mk (fun k (hk : k < 2 ^ 63) W (h : Below w.heap.size w W) => effect_calls A c m own hgood hc k hk W (by have := Kd.C_below hC h; exact this))
    have HY := Aside0.mk (fun k => eff_lt hgood own k)
    rw [zs_length] at *
    clear hC hG
    have h16 := hgood.le
    clear hgood
    by_cases h10 : m.length ≤ 10
    · have HF : Aside0 (fbF (zs m) own = (((far (few (eff m own) (2 ^ m.length)) (2 ^ m.length)).1 : Int), (far (few (eff m own) (2 ^ m.length)) (2 ^ m.length)).2, true)) := ⟨by
        unfold fbF
        rw [HOK.out, if_pos rfl, zs_length, if_pos h10, tn_zs]⟩
      have HSH := Aside0.mk (shl_len m.length h16)
      have hN : 2 ^ m.length ≤ 1024 := Nat.le_trans (Nat.pow_le_pow_right (by decide) h10) (by decide)
      have hd : decide ((m.length : Int) > 10) = false := decide_eq_false (by omega)
      generalize hn : m.length = n at *
      generalize hpn : 2 ^ n = N at *
      have HP := Aside0.mk hpn
      clear hpn hn
      generalize eff m own = ef at *
      go_enter Try.func34, Try.ntmps34
      have hmm := @run_makeMap Try.prog
      go_wp2_with fail
      refine hgw.mono ?_
      rintro e w1 ⟨rfl, hb⟩
      have hcell0 : w1.cell? ⟨w.heap.size, 0, none⟩ = some (.slice A n c) := (hb.cell (p := ⟨w.heap.size, 0, none⟩) (by simp)).trans (by simp)
      have hcell1 : w1.cell? ⟨w.heap.size, 1, none⟩ = some (.bool own) := (hb.cell (p := ⟨w.heap.size, 1, none⟩) (by simp)).trans (by simp)
      have hB1 : Below w.heap.size w w1 := below_then (below_alloc (Below.refl _ _) _) (by simp) hb
      have HB1 := Aside0.mk hB1
      have hs1 : w.heap.size < w1.heap.size := Nat.lt_of_lt_of_le (by simp) hb.size
      clear hgw hb hB1
      go_wp2
      rw [HSH.out]
      have HSZ := Aside0.mk hs1
      go_loopw [29] (fun i wr => ∃ k : Nat, k ≤ N ∧ i = .int .i64 (k : Int) ∧ Aside0 (Tells wr w1.heap.size k (few ef k)) ∧ Aside0 (Below w1.heap.size w1 wr)) (fun i _ => N - (intOf i).toNat)
      case atStart => exact ⟨0, Nat.zero_le _, rfl, ⟨⟨_, World.ownsMap_made _ _ _ _, Rd.start⟩⟩, ⟨(Below.refl _ _).alloc (Nat.le_refl _) _⟩⟩
      case round =>
        obtain ⟨k, hk, rfl, HT, HB⟩ := hrel
        have hcell0r : wr.cell? ⟨w.heap.size, 0, none⟩ = some (.slice A n c) := (HB.out.cell (p := ⟨w.heap.size, 0, none⟩) (by exact HSZ.out)).trans hcell0
        have hcell1r : wr.cell? ⟨w.heap.size, 1, none⟩ = some (.bool own) := (HB.out.cell (p := ⟨w.heap.size, 1, none⟩) (by exact HSZ.out)).trans hcell1
        by_cases hlt : k < N
        · have hBw : Below w.heap.size w wr := HB1.out.trans (HB.out.mono (Nat.le_of_lt HSZ.out))
          have hef := HE.out k (by omega) wr hBw
          have hy := HY.out k
          have h1 := Aside0.mk (few_succ ef k)
          have hck := fun W => count_calls k (by omega) W
          have hpk := Pop.pop_le 16 k
          generalize hkk : (Pop.pop 16 k) = p at *
          clear hkk hBw
          have hcz0 := hcell0r
          go_wp2_with fail
          refine hef.mono ?_
          rintro e w2 ⟨rfl, hb2⟩
          have HB2 := Aside0.mk (HB.out.trans (hb2.mono HB.out.size))
          have ht := HT.out.below hb2 HT.out.lt
          have HS2 : Aside0 (w1.heap.size ≤ w2.heap.size) := ⟨Nat.le_of_lt ht.lt⟩
          clear hef hb2
          cases hf : few ef k (ef k) with
          | none =>
            have HP1 : Aside0 (few ef (k + 1) (ef k) = some p ∧ ∀ z, z ≠ ef k → few ef (k + 1) z = few ef k z) := ⟨by rw [h1.out, if_pos rfl, hf]; rfl, fun z hz => by rw [h1.out, if_neg (Ne.symm hz)]⟩
            generalize ef k = y at *
            go_wp2_with (first
              | (at_lookup; refine tellN _ ht rfl _ _ rfl rfl _ (by omega) rfl hf ?_)
              | (go_at_call 45; (with_reducible refine (hck _).mono ?_); rintro e w' ⟨rfl, ⟨q1, rfl⟩⟩)
              | (at_mapUpdate; refine tellPut _ (ht.drewN _) (few ef (k + 1)) rfl _ _ _ rfl rfl (by omega) _ (by omega) rfl _ (by omega) rfl HP1.out.1 HP1.out.2 ?_; intro w3 ht3 hg3)
              | go_in)
            go_roundw
            case rel => exact ⟨k + 1, by omega, by go_num, ⟨ht3⟩, ⟨Below.grown (pw_below_drewN HB2.out _) hg3 HS2.out (fun j hj => by cases hj; exact Nat.le_refl _)⟩⟩
            case measure => simp [intOf]; omega
          | some mm =>
            have hmm16 := few_le ef k (ef k) mm hf
            by_cases hpm : p < mm
            · have HP1 : Aside0 (few ef (k + 1) (ef k) = some p ∧ ∀ z, z ≠ ef k → few ef (k + 1) z = few ef k z) := ⟨by rw [h1.out, if_pos rfl, hf]; exact congrArg some (if_pos hpm), fun z hz => by rw [h1.out, if_neg (Ne.symm hz)]⟩
              have f1 : decide ((p : Int) < (mm : Int)) = true := decide_eq_true (by omega)
              generalize ef k = y at *
              go_wp2_with (first
                | (at_lookup; refine tellS _ ht rfl _ _ rfl rfl _ (by omega) rfl mm hf ?_)
                | (go_at_call 45; (with_reducible refine (hck _).mono ?_); rintro e w' ⟨rfl, ⟨q1, rfl⟩⟩)
                | (at_mapUpdate; refine tellPut _ (ht.drewN _) (few ef (k + 1)) rfl _ _ _ rfl rfl (by omega) _ (by omega) rfl _ (by omega) rfl HP1.out.1 HP1.out.2 ?_; intro w3 ht3 hg3)
                | go_in)
              go_roundw
              case rel => exact ⟨k + 1, by omega, by go_num, ⟨ht3⟩, ⟨Below.grown (pw_below_drewN HB2.out _) hg3 HS2.out (fun j hj => by cases hj; exact Nat.le_refl _)⟩⟩
              case measure => simp [intOf]; omega
            · have HP1 : Aside0 (∀ z, few ef (k + 1) z = few ef k z) := ⟨fun z => by
                rw [h1.out]
                split
                · rename_i hz
                  rw [← hz, hf]
                  exact congrArg some (if_neg hpm)
                · rfl⟩
              have f1 : decide ((p : Int) < (mm : Int)) = false := decide_eq_false (by omega)
              generalize ef k = y at *
              go_wp2_with (first
                | (at_lookup; refine tellS _ ht rfl _ _ rfl rfl _ (by omega) rfl mm hf ?_)
                | (go_at_call 45; (with_reducible refine (hck _).mono ?_); rintro e w' ⟨rfl, ⟨q1, rfl⟩⟩)
                | go_in)
              go_roundw
              case rel => exact ⟨k + 1, by omega, by go_num, ⟨by rw [funext HP1.out]; exact (ht.mono (Nat.le_succ _)).drewN _⟩, ⟨pw_below_drewN HB2.out _⟩⟩
              case measure => simp [intOf]; omega
        · obtain rfl : k = N := by omega
          have HFE := Aside0.mk (few_le ef k)
          have HT2 := Aside0.mk HT.out
          generalize few ef k = f at *
          have HFL := Aside0.mk (far_lo f)
          have HFH := Aside0.mk (far_hi f HFE.out)
          have HFA := Aside0.mk (far_at f)
          go_wp2
          rw [HSH.out]
          clear hcell0r hcell1r
          go_loopw [10, 11, 58] (fun v1 v2 i wx => ∃ j : Nat, j ≤ k ∧ i = .int .i64 (j : Int) ∧ v1 = .int .i64 ((far f j).1 : Int) ∧ v2 = .int .i64 (far f j).2 ∧ wx = wr) (fun _ _ i _ => k - (intOf i).toNat)
          case atStart => exact ⟨0, Nat.zero_le _, rfl, rfl, rfl, rfl⟩
          case round =>
            obtain ⟨j, hj, rfl, rfl, rfl, rfl⟩ := hrel
            have hlo := HFL.out j
            have hhi := HFH.out j
            have hat := HFA.out j
            by_cases hlt : j < k
            · cases hf : f j with
              | none =>
                have HS : Aside0 (far f (j + 1) = far f j) := ⟨by rw [far, hf]⟩
                generalize far f j = fj at *
                go_wp2_with (first
                  | (at_lookup; refine tellN _ HT2.out rfl _ _ rfl rfl _ (by omega) rfl hf ?_)
                  | go_in)
                go_roundw
                case rel => exact ⟨j + 1, by omega, by go_num, by rw [HS.out], by rw [HS.out], trivial⟩
                case measure => simp [intOf]; omega
              | some mm =>
                have hmm16 := HFE.out j mm hf
                by_cases hpm : (far f j).2 < (mm : Int)
                · have HS : Aside0 (far f (j + 1) = (j, (mm : Int))) := ⟨by rw [far, hf]; exact if_pos hpm⟩
                  have f1 : decide ((mm : Int) > (far f j).2) = true := decide_eq_true hpm
                  generalize far f j = fj at *
                  go_wp2_with (first
                    | (at_lookup; refine tellS _ HT2.out rfl _ _ rfl rfl _ (by omega) rfl mm hf ?_)
                    | go_in)
                  go_roundw
                  case rel => exact ⟨j + 1, by omega, by go_num, by rw [HS.out], by rw [HS.out], trivial⟩
                  case measure => simp [intOf]; omega
                · have HS : Aside0 (far f (j + 1) = far f j) := ⟨by rw [far, hf]; exact if_neg hpm⟩
                  have f1 : decide ((mm : Int) > (far f j).2) = false := decide_eq_false hpm
                  generalize far f j = fj at *
                  go_wp2_with (first
                    | (at_lookup; refine tellS _ HT2.out rfl _ _ rfl rfl _ (by omega) rfl mm hf ?_)
                    | go_in)
                  go_roundw
                  case rel => exact ⟨j + 1, by omega, by go_num, by rw [HS.out], by rw [HS.out], trivial⟩
                  case measure => simp [intOf]; omega
            · obtain rfl : j = k := by omega
              go_wp2
              go_ret3
              exact ⟨by rw [HF.out]; rfl, HB1.out.trans (HB.out.mono (Nat.le_of_lt HSZ.out))⟩
    · have HW : Aside0 (fbF (zs m) own = (0, 0, false)) := ⟨by
        unfold fbF
        rw [HOK.out, if_pos rfl, zs_length, if_neg h10]⟩
      have hd : decide ((m.length : Int) > 10) = true := decide_eq_true (by omega)
      generalize m.length = n at *
      go_enter Try.func34, Try.ntmps34
      go_wp2_with fail
      refine hgw.mono ?_
      rintro e w1 ⟨rfl, hb⟩
      have hcell0 : w1.cell? ⟨w.heap.size, 0, none⟩ = some (.slice A n c) := (hb.cell (p := ⟨w.heap.size, 0, none⟩) (by simp)).trans (by simp)
      go_wp2
      go_ret3
      exact ⟨by rw [HW.out]; rfl, below_then (below_alloc (Below.refl _ _) _) (by simp) hb⟩
end Go.Proofs.Ythjbccbaobkobaa.Faw

/- The board that wants the most presses: what the program's map tells is what the reference's least solutions do. No walk here. -/
namespace Go.Proofs.Ythjbccbaobkobaa.Fap
open Go.RowKit Go.Proofs.YthjbccbaobkobaaW.PrintWords
open Go.Proofs.Ythjbccbaobkobaa.Lin Go.Proofs.Ythjbccbaobkobaa.Bit Go.Proofs.Ythjbccbaobkobaa.Gra Go.Proofs.Ythjbccbaobkobaa.Red Go.Proofs.Ythjbccbaobkobaa.Ker Go.Proofs.Ythjbccbaobkobaa.Sol Go.Proofs.Ythjbccbaobkobaa.Sog Go.Proofs.Ythjbccbaobkobaa.Exd Go.Proofs.Ythjbccbaobkobaa.Pat Go.Proofs.Ythjbccbaobkobaa.Els Go.Proofs.Ythjbccbaobkobaa.Far

theorem effTo_mp (m : List Nat) (own : Bool) (x : Nat) : ∀ i, i ≤ m.length → effTo m own x i = mp (tgls m own) x i
  | 0, _ => rfl
  | i + 1, h => by
    unfold effTo mp
    rw [effTo_mp m own x i (by omega), tgls_get m own (by omega)]
    cases x.testBit i with
    | true => rfl
    | false => exact Nat.xor_zero _
theorem eff_mp (m : List Nat) (own : Bool) (x : Nat) : eff m own x = mp (tgls m own) x (tgls m own).length := by
  rw [tgls_length]
  exact effTo_mp m own x _ (Nat.le_refl _)
/-- The sums hold zero, and whatever the basis spans. -/
theorem mem_sums {B : List Nat} {x : Nat} (h : Sp B x) : x ∈ sums B := by
  have hk : ∀ k, k ≤ B.length → 0 ∈ sums (B.take k) ∧ (∀ x ∈ sums (B.take k), ∀ y ∈ sums (B.take k), x ^^^ y ∈ sums (B.take k)) ∧ ∀ b ∈ B.take k, b ∈ sums (B.take k) := by
    intro k
    induction k with
    | zero =>
      intro _
      rw [List.take_zero]
      refine ⟨List.mem_singleton.2 rfl, fun x hx y hy => ?_, fun _ h => by cases h⟩
      rw [List.mem_singleton.1 hx, List.mem_singleton.1 hy]
      exact List.mem_singleton.2 rfl
    | succ k ih =>
      intro hk
      obtain ⟨h0, hc, hb⟩ := ih (by omega)
      rw [List.take_succ_eq_append_getElem (by omega), sums_snoc]
      generalize B[k] = b at *
      have hin : ∀ z, z ∈ sums (B.take k) → z ∈ sums (B.take k) ++ (sums (B.take k)).map (· ^^^ b) := fun z hz => List.mem_append.2 (Or.inl hz)
      have hin2 : ∀ z, z ∈ sums (B.take k) → z ^^^ b ∈ sums (B.take k) ++ (sums (B.take k)).map (· ^^^ b) := fun z hz => List.mem_append.2 (Or.inr (List.mem_map.2 ⟨z, hz, rfl⟩))
      refine ⟨hin 0 h0, fun x hx y hy => ?_, fun c hc' => ?_⟩
      · rcases List.mem_append.1 hx with hx | hx <;> rcases List.mem_append.1 hy with hy | hy
        · exact hin _ (hc x hx y hy)
        · obtain ⟨z, hz, rfl⟩ := List.mem_map.1 hy
          have := hin2 _ (hc x hx z hz)
          rwa [Nat.xor_assoc] at this
        · obtain ⟨z, hz, rfl⟩ := List.mem_map.1 hx
          have := hin2 _ (hc z hz y hy)
          rwa [x3] at this
        · obtain ⟨z, hz, rfl⟩ := List.mem_map.1 hx
          obtain ⟨u, hu, rfl⟩ := List.mem_map.1 hy
          have := hin _ (hc z hz u hu)
          rwa [← x4 z u b] at this
      · rcases List.mem_append.1 hc' with h | h
        · exact hin _ (hb c h)
        · rw [List.mem_singleton.1 h]
          have := hin2 _ h0
          rwa [Nat.zero_xor] at this
  have := hk B.length (Nat.le_refl _)
  rw [List.take_length] at this
  exact Sp.least (P := fun x => x ∈ sums B) this.1 (fun x y hx hy => this.2.1 x hx y hy) this.2.2 h
theorem better_pop {own best : Nat} (h : better own best = true) : Pop.pop 16 own ≤ Pop.pop 16 best := by
  unfold better at h
  rw [Bool.or_eq_true, Bool.and_eq_true, decide_eq_true_eq, decide_eq_true_eq] at h
  rcases h with h | h
  · omega
  · omega
theorem worse_pop {own best : Nat} (h : better own best = false) : Pop.pop 16 best ≤ Pop.pop 16 own := by
  unfold better at h
  rw [Bool.or_eq_false_iff, decide_eq_false_iff_not] at h
  omega
/-- The least of the sums has the fewest. -/
theorem least_pop (one : Nat) (qs : List Nat) : (∃ q, (q = 0 ∨ q ∈ qs) ∧ Els.leastOf one qs = one ^^^ q) ∧ ∀ q ∈ qs, Pop.pop 16 (Els.leastOf one qs) ≤ Pop.pop 16 (one ^^^ q) := by
  have hk : ∀ k, k ≤ qs.length → (∃ q, (q = 0 ∨ q ∈ qs.take k) ∧ Els.leastOf one (qs.take k) = one ^^^ q) ∧ ∀ q ∈ qs.take k, Pop.pop 16 (Els.leastOf one (qs.take k)) ≤ Pop.pop 16 (one ^^^ q) := by
    intro k
    induction k with
    | zero =>
      intro _
      rw [List.take_zero]
      exact ⟨⟨0, Or.inl rfl, (Nat.xor_zero one).symm⟩, fun _ h => by cases h⟩
    | succ k ih =>
      intro hk
      obtain ⟨⟨q0, hq0, e0⟩, hmin⟩ := ih (by omega)
      rw [List.take_succ_eq_append_getElem (by omega), Els.least_snoc, Els.lstep]
      generalize qs[k] = q at *
      generalize Els.leastOf one (qs.take k) = best at *
      cases hb : better (one ^^^ q) best with
      | true =>
        rw [if_pos rfl]
        have := better_pop hb
        refine ⟨⟨q, Or.inr (List.mem_append.2 (Or.inr (List.mem_singleton.2 rfl))), rfl⟩, fun p hp => ?_⟩
        rcases List.mem_append.1 hp with h | h
        · have := hmin p h; omega
        · rw [List.mem_singleton.1 h]; exact Nat.le_refl _
      | false =>
        rw [if_neg (by decide)]
        have := worse_pop hb
        refine ⟨⟨q0, ?_, e0⟩, fun p hp => ?_⟩
        · rcases hq0 with h | h
          · exact Or.inl h
          · exact Or.inr (List.mem_append.2 (Or.inl h))
        · rcases List.mem_append.1 hp with h | h
          · exact hmin p h
          · rw [List.mem_singleton.1 h]; exact this
  have := hk qs.length (Nat.le_refl _)
  rwa [List.take_length] at this
/-- The fewest, said. -/
theorem few_spec (e : Nat → Nat) (l : Nat) : ∀ k, (few e k l = none → ∀ x, x < k → e x ≠ l) ∧ ∀ m, few e k l = some m → (∃ x, x < k ∧ e x = l ∧ Pop.pop 16 x = m) ∧ ∀ y, y < k → e y = l → m ≤ Pop.pop 16 y
  | 0 => ⟨fun _ _ h => by omega, fun _ h => by cases h⟩
  | k + 1 => by
    obtain ⟨i1, i2⟩ := few_spec e l k
    rw [few_succ]
    by_cases h : e k = l
    · rw [if_pos h]
      refine ⟨fun h => (by cases h), fun m hm => ?_⟩
      obtain rfl := Option.some.inj hm
      clear hm
      cases hf : few e k l with
      | none =>
        refine ⟨⟨k, Nat.lt_succ_self k, h, rfl⟩, fun y hy ey => ?_⟩
        rcases Nat.lt_or_ge y k with hl | hl
        · exact absurd ey (i1 hf y hl)
        · obtain rfl : y = k := by omega
          exact Nat.le_refl _
      | some m =>
        obtain ⟨⟨x, hx, ex, px⟩, hmin⟩ := i2 m hf
        show (∃ x, x < k + 1 ∧ e x = l ∧ Pop.pop 16 x = if Pop.pop 16 k < m then Pop.pop 16 k else m) ∧ ∀ y, y < k + 1 → e y = l → (if Pop.pop 16 k < m then Pop.pop 16 k else m) ≤ Pop.pop 16 y
        by_cases hp : Pop.pop 16 k < m
        · rw [if_pos hp]
          refine ⟨⟨k, Nat.lt_succ_self k, h, rfl⟩, fun y hy ey => ?_⟩
          rcases Nat.lt_or_ge y k with hl | hl
          · have := hmin y hl ey; omega
          · obtain rfl : y = k := by omega
            exact Nat.le_refl _
        · rw [if_neg hp]
          refine ⟨⟨x, by omega, ex, px⟩, fun y hy ey => ?_⟩
          rcases Nat.lt_or_ge y k with hl | hl
          · exact hmin y hl ey
          · obtain rfl : y = k := by omega
            omega
    · rw [if_neg h]
      refine ⟨fun hn x hx => ?_, fun m hm => ?_⟩
      · rcases Nat.lt_or_ge x k with hl | hl
        · exact i1 hn x hl
        · obtain rfl : x = k := by omega
          exact h
      · obtain ⟨⟨x, hx, ex, px⟩, hmin⟩ := i2 m hm
        refine ⟨⟨x, by omega, ex, px⟩, fun y hy ey => ?_⟩
        rcases Nat.lt_or_ge y k with hl | hl
        · exact hmin y hl ey
        · obtain rfl : y = k := by omega
          exact absurd ey h
/-- What the program's map tells of lights is how many presses the reference's least solution has. -/
theorem few_least (m : List Nat) (own : Bool) (x : Nat) :
    few (eff m own) (2 ^ m.length) x = if slvd (zs m) own (x : Int) then some (Pop.pop 16 (Els.leastOf (red (refQ (tgls m own)) (lef (zs m) own (x : Int))) (sums (refQ (tgls m own))))) else none := by
  have hsl : slvd (zs m) own (x : Int) = true ↔ red (refP (tgls m own)) (x * 2 ^ (tgls m own).length) / 2 ^ (tgls m own).length = 0 := by
    unfold slvd lef
    rw [efs_zs, Int.toNat_natCast, decide_eq_true_eq]
  have hlf : lef (zs m) own (x : Int) = red (refP (tgls m own)) (x * 2 ^ (tgls m own).length) := by
    unfold lef
    rw [efs_zs, Int.toNat_natCast]
  obtain ⟨hn, hs⟩ := few_spec (eff m own) x (2 ^ m.length)
  have hL := tgls_length m own
  cases hv : slvd (zs m) own (x : Int) with
  | false =>
    rw [if_neg (by decide)]
    have hni : ¬ Im (tgls m own) x := fun h => by
      have := hsl.2 ((refP_solved (tgls m own)).2 h)
      rw [hv] at this
      cases this
    cases hf : few (eff m own) (2 ^ m.length) x with
    | none => rfl
    | some p =>
      obtain ⟨⟨y, hy, ey, _⟩, _⟩ := hs p hf
      exact absurd ⟨y, by rw [hL]; exact hy, by rw [← eff_mp]; exact ey⟩ hni
  | true =>
    rw [if_pos rfl, hlf]
    have h0 := hsl.1 hv
    obtain ⟨h1, h2⟩ := refP_presses (tgls m own) h0
    generalize red (refP (tgls m own)) (x * 2 ^ (tgls m own).length) = p at *
    have hrs := red_sp (refQ (tgls m own)) p
    have hK := refQ_kernel (tgls m own)
    have hone : red (refQ (tgls m own)) p < 2 ^ (tgls m own).length ∧ mp (tgls m own) (red (refQ (tgls m own)) p) (tgls m own).length = x := by
      obtain ⟨k1, k2⟩ := (hK _).1 hrs
      have e : red (refQ (tgls m own)) p = p ^^^ (p ^^^ red (refQ (tgls m own)) p) := (xxl _ _).symm
      refine ⟨by rw [e]; exact Nat.xor_lt_two_pow h1 k1, ?_⟩
      rw [e, mp_xor, k2, h2, Nat.xor_zero]
    generalize red (refQ (tgls m own)) p = one at *
    obtain ⟨⟨q, hq, eq⟩, hmin⟩ := least_pop one (sums (refQ (tgls m own)))
    have hq' : Sp (refQ (tgls m own)) q := by
      rcases hq with h | h
      · rw [h]; exact Sp.zero _
      · exact sums_sp _ q h
    obtain ⟨k1, k2⟩ := (hK _).1 hq'
    have hle : Els.leastOf one (sums (refQ (tgls m own))) < 2 ^ m.length ∧ eff m own (Els.leastOf one (sums (refQ (tgls m own)))) = x := by
      rw [eq, eff_mp, ← hL]
      exact ⟨Nat.xor_lt_two_pow hone.1 k1, by rw [mp_xor, hone.2, k2, Nat.xor_zero]⟩
    cases hf : few (eff m own) (2 ^ m.length) x with
    | none => exact absurd hle.2 (hn hf _ hle.1)
    | some c =>
      obtain ⟨⟨y, hy, ey, py⟩, hc⟩ := hs c hf
      have c1 := hc _ hle.1 hle.2
      have hk : Sp (refQ (tgls m own)) (one ^^^ y) := by
        refine (hK _).2 ⟨Nat.xor_lt_two_pow hone.1 (by rw [hL]; exact hy), ?_⟩
        rw [mp_xor, hone.2, ← eff_mp, ey, Nat.xor_self]
      have c2 := hmin _ (mem_sums hk)
      rw [xxl, py] at c2
      exact congrArg some (by omega)
theorem few_zero (m : List Nat) (own : Bool) : few (eff m own) (2 ^ m.length) 0 = some 0 := by
  obtain ⟨hn, hs⟩ := few_spec (eff m own) 0 (2 ^ m.length)
  have h0 : eff m own 0 = 0 := by rw [eff_mp, mp_zero]
  cases hf : few (eff m own) (2 ^ m.length) 0 with
  | none => exact absurd h0 (hn hf 0 (Nat.two_pow_pos _))
  | some c =>
    have := (hs c hf).2 0 (Nat.two_pow_pos _) h0
    rw [show Pop.pop 16 0 = 0 from by decide] at this
    exact congrArg some (by omega)
theorem far_one (m : List Nat) (own : Bool) : far (few (eff m own) (2 ^ m.length)) 1 = (0, 0) := by
  rw [far, few_zero]; rfl
end Go.Proofs.Ythjbccbaobkobaa.Fap
