/- The helpers of laws on graphs, over what is known of memory. -/
import Derived.Test.YteabfdcobkgmmaaPFnExactGraphOfx
import Derived.Test.YteabfdcobkgmmaaMw
namespace Go.Proofs.Yteabfdcobkgmmaa.MgFnExactGraphOf
open Go.RowKit Go.Proofs.Yteabfdcobkgmmaa.PFnExactGraphOf Go.Proofs.YteabfdcobkgmmaaW.PrintWords Go.Proofs.YteabfdcobkgmmaaW.PrintLast Go.Proofs.YteabfdcobkgmmaaW.PrintMore Go.Proofs.Yteabfdcobkgmmaa.Mw
section
variable {w W : World} {cs : List Bk} {rs : List It}
theorem eqG {a b a' b' c c' n n' : Nat} {A A' : Option Addr} {l : List Int} {o : Bool} (k : Nat) (h : laws_eqGraph.f k l o l o = some true) (hM : M w cs rs W) (m1 : row w.heap.size a b (.slice A n c) l ∈ rs) (m2 : row w.heap.size a' b' (.slice A' n' c') l ∈ rs) :
    Calls Try.prog 11 #[.agg #[.slice A n c, .bool o], .agg #[.slice A' n' c', .bool o]] W fun e w' => e = .returned (.bool true) ∧ M w cs rs w' := by
  obtain ⟨e1, h1, h2⟩ := hM.reads m1
  obtain ⟨e2, h3, h4⟩ := hM.reads m2
  rw [e1] at h1
  rw [e2] at h3
  rw [e1, e2]
  refine (laws_eqGraph.calls k A c l o A' c' l o true W h2 h1 h4 h3 h).mono ?_
  rintro e w' ⟨rfl, hb⟩
  exact ⟨rfl, hM.step hb⟩
theorem markG {a b c n : Nat} {A : Option Addr} {l l' : List Int} {o : Bool} {i m : Int} (k : Nat) (h : laws_markGraph.f k l o i = some (m, l')) (hM : M w cs (row w.heap.size a b (.slice A n c) l :: rs) W) :
    Calls Try.prog 12 #[.agg #[.slice A n c, .bool o], .int .i64 i] W fun e w' => e = .returned (.int .i64 m) ∧ M w cs (row w.heap.size a b (.slice A n c) l' :: rs) w' := by
  have h4 : ki.R 3 W w.heap.size (Iv a b) (.slice A n c) l := It.ok_now (hM.it _ (List.mem_cons_self ..))
  refine (laws_markGraph.calls k (Iv a b) (.slice A n c) l o i m l' w W hM.below h4 h).mono ?_
  rintro e w' ⟨rfl, hR, hb, hk⟩
  exact ⟨rfl, hM.rmark hR hb hk⟩
theorem heldG {a b c n : Nat} {A : Option Addr} {l : List Int} {o : Bool} {i m : Int} (k : Nat) (h : laws_heldGraph.f k l o i = some m) (hM : M w cs rs W) (m1 : row w.heap.size a b (.slice A n c) l ∈ rs) :
    Calls Try.prog 13 #[.agg #[.slice A n c, .bool o], .int .i64 i] W fun e w' => e = .returned (.int .i64 m) ∧ M w cs rs w' := by
  obtain ⟨e1, h1, h2⟩ := hM.reads m1
  rw [e1] at h1
  rw [e1]
  refine (laws_heldGraph.calls k A c l o i m W h2 h1 h).mono ?_
  rintro e w' ⟨rfl, hb⟩
  exact ⟨rfl, hM.step hb⟩
end
end Go.Proofs.Yteabfdcobkgmmaa.MgFnExactGraphOf
