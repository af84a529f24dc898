/- Words for what the program's functions on solutions answer: no walk here. -/
import Derived.Test.YthjbccbaobkobaaSog
namespace Go.Proofs.Ythjbccbaobkobaa.Exd
open Go.RowKit Go.Proofs.Ythjbccbaobkobaa.PBase Go.Proofs.YthjbccbaobkobaaW.PrintWords Go.Proofs.YthjbccbaobkobaaW.PrintLast Go.Proofs.YthjbccbaobkobaaW.PrintMore
open Go.Proofs.Ythjbccbaobkobaa.Lin Go.Proofs.Ythjbccbaobkobaa.Bit Go.Proofs.Ythjbccbaobkobaa.Gra Go.Proofs.Ythjbccbaobkobaa.Red Go.Proofs.Ythjbccbaobkobaa.Ker Go.Proofs.Ythjbccbaobkobaa.Ext Go.Proofs.Ythjbccbaobkobaa.Rea Go.Proofs.Ythjbccbaobkobaa.Sol Go.Proofs.Ythjbccbaobkobaa.Sog

def tn (l : List Int) : List Nat := l.map Int.toNat
theorem tn_zs (m : List Nat) : tn (zs m) = m := by
  unfold tn zs
  rw [List.map_map]
  exact (List.map_congr_left fun x _ => Int.toNat_natCast x).trans (List.map_id _)
/-- The effects of a graph's buttons. -/
def efs (l : List Int) (own : Bool) : List Nat := tgls (tn l) own
theorem shl_len (k : Nat) (h : k ≤ 16) : wrap64 ((2 : Int) ^ k) = ((2 ^ k : Nat) : Int) := by
  have h1 : ((2 : Int) ^ k) = ((2 ^ k : Nat) : Int) := by norm_cast
  have h2 : 2 ^ k ≤ 2 ^ 16 := Nat.pow_le_pow_right (by decide) h
  rw [h1, wrapn _ (Nat.lt_of_le_of_lt h2 (by decide))]
/-- A graph, and a set of its buttons. -/
def okS (l : List Int) (x : Int) : Bool := goodB l && decide (0 ≤ x ∧ x ≤ ((2 ^ l.length - 1 : Nat) : Int))
/-- What is left of lights, with the presses below. -/
def lef (l : List Int) (own : Bool) (x : Int) : Nat := red (refP (efs l own)) (x.toNat * 2 ^ (efs l own).length)
def slvd (l : List Int) (own : Bool) (x : Int) : Bool := decide (lef l own x / 2 ^ (efs l own).length = 0)
theorem eq_one {W : World} {b : Nat} {x : Int} (h : W.cell? ⟨b, 0, none⟩ = some (.int .i64 x)) : Kd.C (Kd.int .i64) W (some ⟨b, 0, none⟩) [x].length [x] :=
  Kd.C_of_reads (d := (0 : Int)) (h1 := fun _ => rfl) ⟨rfl, by simp, fun _ => ⟨_, rfl, fun j hj => by
    have : j = 0 := by simp at hj; omega
    subst this
    exact h⟩⟩
theorem okS_set (l : List Int) (x : Int) : (goodB l && !([x].any (noSet l.length))) = okS l x := by
  unfold okS noSet
  simp only [List.any_cons, List.any_nil, Bool.or_false, Bool.not_not]
theorem efs_zs (m : List Nat) (own : Bool) : efs (zs m) own = tgls m own := by rw [efs, tn_zs]
/-- What a solver answers is what the reference does. -/
theorem answer {m : List Nat} {own : Bool} {P : List (Nat × Nat)} {Q I : List Nat} (hk : Know (tgls m own) P Q I) {x l p : Nat} (hr : Reached P x l p) :
    (((l : Int) == 0) = slvd (zs m) own (x : Int)) ∧ (l = 0 → red Q p = red (refQ (efs (zs m) own)) (lef (zs m) own (x : Int))) ∧ (l = 0 ↔ slvd (zs m) own (x : Int) = true) := by
  obtain ⟨h1, h2⟩ := hk.inv.answer hr
  have h3 : l = 0 ↔ slvd (zs m) own (x : Int) = true := by
    unfold slvd lef
    rw [efs_zs, Int.toNat_natCast, decide_eq_true_eq]
    exact h1
  refine ⟨?_, fun h => ?_, h3⟩
  · rw [Bool.eq_iff_iff, ← h3, beq_iff_eq]; omega
  · unfold lef
    rw [efs_zs, Int.toNat_natCast]
    exact h2 h

end Go.Proofs.Ythjbccbaobkobaa.Exd
