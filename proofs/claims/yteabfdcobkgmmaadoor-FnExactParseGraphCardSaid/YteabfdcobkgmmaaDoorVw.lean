/- What the program's start has laid in the library's variables that ParseGraph's callees read: a number, and two errors. -/
import Derived.Test.YteabfdcobkgmmaaDoorProg
import Derived.WalkKit
import Derived.Below
namespace Go.Proofs.YteabfdcobkgmmaaDoor.Vw
open Go.RowKit
structure V (w : World) : Prop where
  max : ∃ m, w.cell? ⟨0, 0, none⟩ = some (.int .i64 m)
  syn : ∃ ev, w.cell? ⟨1, 0, none⟩ = some ev ∧ (ev = .nilIface ∨ ∃ te pe, ev = .iface te pe)
  rng : ∃ ev, w.cell? ⟨2, 0, none⟩ = some ev ∧ (ev = .nilIface ∨ ∃ te pe, ev = .iface te pe)
theorem V.below {w w' : World} (h : V w) (hb : Below w.heap.size w w') : V w' := by
  have c : ∀ (a : Addr) (v : Value), w.cell? a = some v → w'.cell? a = some v := fun a v e => (hb.cell (World.block_lt_of_cell? w _ e)).trans e
  obtain ⟨⟨m, h1⟩, ⟨s, h2, h3⟩, ⟨r, h4, h5⟩⟩ := h
  exact ⟨⟨m, c _ _ h1⟩, ⟨s, c _ _ h2, h3⟩, ⟨r, c _ _ h4, h5⟩⟩
end Go.Proofs.YteabfdcobkgmmaaDoor.Vw
