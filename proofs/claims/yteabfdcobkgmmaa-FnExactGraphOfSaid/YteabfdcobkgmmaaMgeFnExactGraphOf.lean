/- The helpers of laws on rows of rows, over what is known of memory. -/
import Derived.Test.YteabfdcobkgmmaaPFnExactGraphOfx
import Derived.Test.YteabfdcobkgmmaaMws
namespace Go.Proofs.Yteabfdcobkgmmaa.MgeFnExactGraphOf
open Go.RowKit Go.Proofs.Yteabfdcobkgmmaa.PFnExactGraphOf Go.Proofs.YteabfdcobkgmmaaW.PrintWords Go.Proofs.YteabfdcobkgmmaaW.PrintLast Go.Proofs.YteabfdcobkgmmaaW.PrintMore Go.Proofs.Yteabfdcobkgmmaa.Mw
section
variable {w W : World} {cs : List Bk} {rs : List It}
theorem eqSS {a b a' b' c c' n n' : Nat} {A A' : Option Addr} {l : List (List Int)} (k : Nat) (h : laws_eqIntSS.f k l l = some true) (hM : M w cs rs W) (m1 : rows w.heap.size a b (.slice A n c) l ∈ rs) (m2 : rows w.heap.size a' b' (.slice A' n' c') l ∈ rs) :
    Calls Try.prog 18 #[.slice A n c, .slice A' n' c'] W fun e w' => e = .returned (.bool true) ∧ M w cs rs w' := by
  obtain ⟨e1, h1, h2⟩ := hM.readss m1
  obtain ⟨e2, h3, h4⟩ := hM.readss m2
  rw [e1] at h1
  rw [e2] at h3
  rw [e1, e2]
  refine (laws_eqIntSS.calls k A c l A' c' l true W h2 h1 h4 h3 h).mono ?_
  rintro e w' ⟨rfl, q, rfl⟩
  exact ⟨rfl, hM.drewN q⟩
theorem markSS {a b c n : Nat} {A : Option Addr} {l l' : List (List Int)} {i m : Int} (k : Nat) (h : laws_markIntSS.f k l i = some (m, l')) (hM : M w cs (rows w.heap.size a b (.slice A n c) l :: rs) W) :
    Calls Try.prog 19 #[.slice A n c, .int .i64 i] W fun e w' => e = .returned (.int .i64 m) ∧ M w cs (rows w.heap.size a b (.slice A n c) l' :: rs) w' := by
  have h4 : ks.S 22 W w.heap.size (Iv a b) (.slice A n c) l := It.ok_now (hM.it _ (List.mem_cons_self ..))
  refine (laws_markIntSS.calls k (Iv a b) (.slice A n c) l i m l' w W hM.below h4 h).mono ?_
  rintro e w' ⟨rfl, hR, hb, hk⟩
  exact ⟨rfl, hM.rsmark hR hb hk⟩
end
end Go.Proofs.Yteabfdcobkgmmaa.MgeFnExactGraphOf
