/- What a law's own walk knows of rows of rows: each in its own stretch of blocks. -/
import Derived.Test.YteabfdcobkgmmaaMw
namespace Go.Proofs.Yteabfdcobkgmmaa.Mw
open Go.RowKit Go.Proofs.YteabfdcobkgmmaaW.PrintWords Go.Proofs.YteabfdcobkgmmaaW.PrintLast Go.Proofs.YteabfdcobkgmmaaW.PrintMore
abbrev ks : Kd (List Int) := Kd.slice 3 ki
/-- A row of rows of whole numbers. -/
def rows (n0 a b : Nat) (v : Value) (l : List (List Int)) : It := ⟨a, b, fun W => ks.S 22 W n0 (Iv a b) v l⟩
section
variable {w W W' : World} {cs : List Bk} {rs : List It}
theorem M.rowsc {v : Value} {l : List (List Int)} (h : M w cs rs W) (hr : ks.S 22 W' W.heap.size (fun _ => True) v l) (hb : Below W.heap.size W W') : M w cs (rows w.heap.size W.heap.size W'.heap.size v l :: rs) W' :=
  h.made hb fun _ h2 => Kd.S_lower (Kd.S_mono (Kd.S_move (Kd.S_bound hr) fun k hk => h2 k hk.2.1 hk.2.2.1) fun _ hk => ⟨hk.2.1, hk.2.2.1⟩) h.below.size
theorem M.readss (h : M w cs rs W) {a b n c : Nat} {A : Option Addr} {l : List (List Int)} (hm : rows w.heap.size a b (.slice A n c) l ∈ rs) : n = l.length ∧ n ≤ c ∧ ks.C W A l.length l := Kd.S_reads' (show ks.S 22 W w.heap.size (Iv a b) (.slice A n c) l from It.ok_now (h.it _ hm))
theorem M.rsmark {a b : Nat} {v : Value} {l l' : List (List Int)} (h : M w cs (rows w.heap.size a b v l :: rs) W) (hS : ks.S 22 W' w.heap.size (Iv a b) v l') (hb : Below w.heap.size w W') (hk : Kept W W' (Iv a b)) : M w cs (rows w.heap.size a b v l' :: rs) W' :=
  h.mark hb hk fun _ h2 => Kd.S_move hS (fun k hk => h2 k hk.1 hk.2)
end
end Go.Proofs.Yteabfdcobkgmmaa.Mw
