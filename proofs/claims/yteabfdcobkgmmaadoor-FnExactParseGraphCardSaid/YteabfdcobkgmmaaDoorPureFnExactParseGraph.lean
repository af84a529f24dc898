/- ParseGraph of the program and of the reference agree, for every text. -/
import Derived.Test.YteabfdcobkgmmaaDoorPgI
namespace Go.Proofs.YteabfdcobkgmmaaDoor.Pure
open Go.RowKit Go.Proofs.YteabfdcobkgmmaaDoor.PFnExactParseGraph Go.Proofs.YteabfdcobkgmmaaDoorW.PrintWords Go.Proofs.YteabfdcobkgmmaaDoorW.PrintLast Go.Proofs.YteabfdcobkgmmaaDoor.Bit Go.Proofs.YteabfdcobkgmmaaDoor.Gra Go.Proofs.YteabfdcobkgmmaaDoor.LemFnExactParseGraph Go.Proofs.YteabfdcobkgmmaaDoor.PgB Go.Proofs.YteabfdcobkgmmaaDoor.PgS Go.Proofs.YteabfdcobkgmmaaDoor.PgT Go.Proofs.YteabfdcobkgmmaaDoor.PgI

theorem both (s : ByteArray) (hs : s.size ≤ 1048576) : ∃ (R : List Int) (ro rb : Bool), R.length ≤ 16 ∧ ∀ k, 5000000 ≤ k → spec_ParseGraph.f k s = some (R, ro, rb) ∧ impl_ParseGraph.f k s = some (R, ro, rb) := by
  by_cases h : ∃ m own, Gra.Good m ∧ s.data.toList = txt m.length own (eOut m m.length)
  · obtain ⟨m, own, hm, e⟩ := h
    refine ⟨zs m, own, true, by rw [zs_length]; exact hm.le, fun k hk => ⟨?_, iAcc m hm own s e k hk⟩⟩
    unfold spec_ParseGraph.f
    rw [sAcc m hm own s e k hk]
    simp only [bs]
  · refine ⟨[], false, false, Nat.zero_le _, fun k hk => ⟨?_, ?_⟩⟩
    · obtain ⟨r, hr, rfl | ⟨m, own, hm, _, e⟩⟩ := sTot s hs k hk
      · unfold spec_ParseGraph.f
        rw [hr]
        simp only [bs]
      · exact absurd ⟨m, own, hm, e⟩ h
    · obtain ⟨r, hr, rfl | ⟨m, own, hm, _, e⟩⟩ := iTot s hs k hk
      · exact hr
      · exact absurd ⟨m, own, hm, e⟩ h
theorem FnExactParseGraph (s : ByteArray) (_ : s.size ≤ 140737488351232) : ∃ k, laws_FnExactParseGraph.f k s = some true := by
  refine ⟨5000010, ?_⟩
  unfold laws_FnExactParseGraph.f
  by_cases h : (s.size : Int) > 1048576
  · rw [if_pos h]
  · obtain ⟨R, ro, rb, hR, hb⟩ := both s (by omega)
    obtain ⟨h1, h2⟩ := hb 5000010 (by omega)
    have h3 := (hb 5000009 (by omega)).2
    rw [if_neg h, h1]
    simp only [bs]
    rw [h2]
    simp only [bs]
    rw [eqGraph_self R ro (by omega) _ (by omega)]
    simp only [bs, if_true, bne_self_eq_false]
    rw [laws_FnExactParseGraph.j0, if_neg (by decide), show (1 : Int) = ((1 : Nat) : Int) from rfl, markE_f 1 R ro (by omega) (by decide) _ (by omega)]
    simp only [bs]
    rw [heldNG_f 1 R.length ro (by omega) (by decide) _ (by omega)]
    simp only [bs]
    rw [if_neg (by omega), if_pos trivial, h3]
    simp only [bs]
    rw [eqGraph_self R ro (by omega) _ (by omega)]
    simp only [bs, if_true, bne_self_eq_false]
    rw [laws_FnExactParseGraph.j1, if_neg (by decide), show (1 : Int) = ((1 : Nat) : Int) from rfl, heldNG_f 1 R.length ro (by omega) (by decide) _ (by omega)]
    simp only [bs]
    rw [if_neg (by omega), if_pos trivial]
end Go.Proofs.YteabfdcobkgmmaaDoor.Pure
