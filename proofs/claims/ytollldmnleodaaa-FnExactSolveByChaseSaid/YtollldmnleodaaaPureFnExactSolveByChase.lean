/- SolveByChase of the program and of the reference agree: for all arguments. -/
import Derived.Test.YtollldmnleodaaaLemFnExactSolveByChase
namespace Go.Proofs.Ytollldmnleodaaa.Pure
open Go.RowKit Go.Proofs.Ytollldmnleodaaa.PFnExactSolveByChase Go.Proofs.YtollldmnleodaaaW.PrintWords Go.Proofs.YtollldmnleodaaaW.PrintLast Go.Proofs.Ytollldmnleodaaa.Bit Go.Proofs.Ytollldmnleodaaa.Row Go.Proofs.Ytollldmnleodaaa.Lin Go.Proofs.Ytollldmnleodaaa.LemFnExactSolveByChase

theorem law_of {r c : Int} {own : Bool} {L x : Int} {b : Bool} {k : Nat} (hs : spec_SolveByChase.f k r c own L = some (x, b)) (hi : impl_SolveByChase.f k r c own L = some (x, b)) : laws_FnExactSolveByChase.f k r c own L = some true := by
  unfold laws_FnExactSolveByChase.f
  rw [hs, hi]
  simp only [bs, if_true, bne_self_eq_false]
  rfl

theorem firsts_lt {r c : Nat} {own : Bool} {L f : Nat} {t : List Nat} (h : firsts r c own L = f :: t) : f < 2 ^ c := by
  have : f ∈ firsts r c own L := by rw [h]; exact List.mem_cons_self ..
  exact List.mem_range.1 (List.mem_filter.1 this).1

theorem FnExactSolveByChase : laws_FnExactSolveByChase.Pure := by
  intro r c own L _ _ _
  by_cases h : GridOk r c
  · obtain ⟨r, c, rfl, rfl, h1, h2, h3, h4, h5⟩ := grid_nat h
    have hp : (2 : Nat) ^ (c * r) ≤ 2 ^ 16 := Nat.pow_le_pow_right (by decide) h5
    have hq := Nat.two_pow_pos (c * r)
    refine ⟨2 ^ c + r + 2, ?_⟩
    have e1 : spec_csTask.f (r : Int) (c : Int) L 0 = some (decide (0 ≤ L ∧ L ≤ ((2 ^ (c * r) - 1 : Nat) : Int))) := by
      rw [csTask_yes r c L 0 h h5 h4, decide_eq_true (p := (0 : Int) ≤ 0 ∧ (0 : Int) ≤ _) ⟨by omega, Int.natCast_nonneg _⟩, Bool.and_true]
    have e2 := impl_FirstRows_yes r c own L h h5 h4 h2 h1 (2 ^ c + r + 2) (by omega)
    by_cases g1 : 0 ≤ L ∧ L ≤ ((2 ^ (c * r) - 1 : Nat) : Int)
    · obtain ⟨L, rfl⟩ := Int.eq_ofNat_of_zero_le g1.1
      rw [decide_eq_true g1] at e1
      by_cases g2 : c ≤ 8
      · rw [if_pos ⟨g1, g2⟩, Int.toNat_natCast] at e2
        have s1 := csFirst_f r c own L h4 h5 h2 h1 (by omega) (2 ^ c + r + 1) (by omega)
        rcases hf : firsts r c own L with _ | ⟨f, t⟩
        · rw [hf] at e2 s1
          refine law_of (x := 0) (b := false) ?_ ?_
          · unfold spec_SolveByChase.f
            rw [e1]
            simp only [bs, if_true]
            rw [spec_SolveByChase.j0, if_neg (by simp <;> omega), s1]
            rfl
          · unfold impl_SolveByChase.f
            rw [e2]; rfl
        · have hlt := firsts_lt hf
          rw [hf] at e2 s1
          have e3 : rd (zs (f :: t)) 0 = (f : Int) := rd_zs (f :: t) 0
          have e4 : 0 < ((zs (f :: t)).length : Int) := by rw [zs_length, List.length_cons]; omega
          refine law_of (x := ((prs c own L f r : Nat) : Int)) (b := true) ?_ ?_
          · unfold spec_SolveByChase.f
            rw [e1]
            simp only [bs, if_true]
            rw [spec_SolveByChase.j0, if_neg (by simp <;> omega), s1]
            simp only [bs]
            rw [if_neg (by omega), if_pos e4, e3, csChase_f r c own L f h4 h5 h2 h1 (by omega) hlt (2 ^ c + r + 1) (by omega)]
            rfl
          · unfold impl_SolveByChase.f
            rw [e2]
            simp only [bs, if_true]
            rw [if_neg (by omega), if_pos e4, e3, impl_ChasePresses_yes r c own L f h h5 h4 h2 h1 (by omega) hlt (2 ^ c + r + 2) (by omega)]
            rfl
      · rw [if_neg fun g => g2 g.2] at e2
        refine law_of (x := 0) (b := false) ?_ ?_
        · unfold spec_SolveByChase.f
          rw [e1]
          simp only [bs, if_true]
          rw [spec_SolveByChase.j0, if_pos (by simp <;> omega)]
        · unfold impl_SolveByChase.f
          rw [e2]; rfl
    · rw [decide_eq_false g1] at e1
      rw [if_neg fun g => g1 g.1] at e2
      refine law_of (x := 0) (b := false) ?_ ?_
      · unfold spec_SolveByChase.f
        rw [e1]
        simp only [bs]
        rw [if_neg (by decide), spec_SolveByChase.j0, if_pos rfl]
      · unfold impl_SolveByChase.f
        rw [e2]; rfl
  · refine ⟨1, law_of (x := 0) (b := false) ?_ ?_⟩
    · unfold spec_SolveByChase.f
      rw [csTask_no L 0 h]
      simp only [bs]
      rw [if_neg (by decide), spec_SolveByChase.j0, if_pos rfl]
    · unfold impl_SolveByChase.f
      rw [impl_FirstRows_no r c own L h]; rfl

end Go.Proofs.Ytollldmnleodaaa.Pure
