/-
  No cell of these rows narrows 'for every input' (looked for: loops, veiled, ifaces, maps, wideKeys, modest, calm, conditions, laid).
  DERIVED. THE GIVEN ROWS OF THIS SEAT. 4 by the template 'for every input the law returns true; each argument reads behind the call as it read before'; 0 by the template 'total and deterministic' (their statements: YteabfdcobkgmmaaTotals.lean).
  GIVEN WITH THE SEED: the statements are not yours to turn. If you find one false, say at which input.
  Laid BY PROGRAM, IN A SANDBOX (cutbox-rows.mjs): the forced cells as the released guide's own fill.sh prints them over the translation 6092392010257e84… (all of the seat's roots in one cut). By AI agents, Wed Nov 11 2026. No macro, syntax, notation, axiom, sorry.
-/
import Derived.Test.YteabfdcobkgmmaaChecked
import GoSem.Claim
import GoSem.ClaimJoined
import GoSem.ClaimMapViews
import Derived.JoinedTies
import Derived.KernelRfl
namespace Go.Proofs.Yteabfdcobkgmmaa
/- THE CELL 'sum', in the pinned program and in every row, IS THE sha256 OF THE DUMP (.gsa) THAT YteabfdcobkgmmaaProg.lean LOADS. Nothing in Lean hashes anything: it is a label: what it is worth is what the hold of that sum in a sandbox is worth. -/
noncomputable def Try.pinned : Pinned := { name := "yteabfdcobkgmmaa", sum := "6092392010257e84f368f37d04d793f864065d28d8de295cba4dea12f0deed68", checked := Try.checked }
namespace Rows
def none {H : Type} : Left H := { results := [], args := [] }

/-- 'laws.FnExactJoinGraphs': WHATEVER THE INPUT: true; the input reads as it did. -/
def fnExactJoinGraphsSpec : ChangeSpec := { name := "fnExactJoinGraphs", fn := fun _ => fun
  | [d1, d2] => { results := [.lit (.bool true)], args := [d1, d2] }
  | _ => none }
def fnExactJoinGraphsRow : OpenClaim := { program := "yteabfdcobkgmmaa", sum := "6092392010257e84f368f37d04d793f864065d28d8de295cba4dea12f0deed68", func := "loop.example/g01146/laws.FnExactJoinGraphs", spec := "fnExactJoinGraphs", apart := false }
def FnExactJoinGraphsSaid : Prop := fnExactJoinGraphsRow.holds Try.pinned (OpenSpec.ofChange fnExactJoinGraphsSpec)

/-- ITS FALSE NEIGHBOUR: 'it returns false'. Refute it at one input. -/
def fnExactJoinGraphsWrong : ChangeSpec := { name := "fnExactJoinGraphs", fn := fun _ => fun
  | [d1, d2] => { results := [.lit (.bool false)], args := [d1, d2] }
  | _ => none }
def FnExactJoinGraphsWrongFalsely : Prop := fnExactJoinGraphsRow.holds Try.pinned (OpenSpec.ofChange fnExactJoinGraphsWrong)

/-- 'laws.FnExactGraphOf': WHATEVER THE INPUT: true; the input reads as it did. -/
def fnExactGraphOfSpec : ChangeSpec := { name := "fnExactGraphOf", fn := fun _ => fun
  | [d1, d2, d3] => { results := [.lit (.bool true)], args := [d1, d2, d3] }
  | _ => none }
def fnExactGraphOfRow : OpenClaim := { program := "yteabfdcobkgmmaa", sum := "6092392010257e84f368f37d04d793f864065d28d8de295cba4dea12f0deed68", func := "loop.example/g01146/laws.FnExactGraphOf", spec := "fnExactGraphOf", apart := false }
def FnExactGraphOfSaid : Prop := fnExactGraphOfRow.holds Try.pinned (OpenSpec.ofChange fnExactGraphOfSpec)

/-- ITS FALSE NEIGHBOUR: 'it returns false'. Refute it at one input. -/
def fnExactGraphOfWrong : ChangeSpec := { name := "fnExactGraphOf", fn := fun _ => fun
  | [d1, d2, d3] => { results := [.lit (.bool false)], args := [d1, d2, d3] }
  | _ => none }
def FnExactGraphOfWrongFalsely : Prop := fnExactGraphOfRow.holds Try.pinned (OpenSpec.ofChange fnExactGraphOfWrong)

/-- 'laws.FnExactEdgesOf': WHATEVER THE INPUT: true; the input reads as it did. -/
def fnExactEdgesOfSpec : ChangeSpec := { name := "fnExactEdgesOf", fn := fun _ => fun
  | [d] => { results := [.lit (.bool true)], args := [d] }
  | _ => none }
def fnExactEdgesOfRow : OpenClaim := { program := "yteabfdcobkgmmaa", sum := "6092392010257e84f368f37d04d793f864065d28d8de295cba4dea12f0deed68", func := "loop.example/g01146/laws.FnExactEdgesOf", spec := "fnExactEdgesOf", apart := false }
def FnExactEdgesOfSaid : Prop := fnExactEdgesOfRow.holds Try.pinned (OpenSpec.ofChange fnExactEdgesOfSpec)

/-- ITS FALSE NEIGHBOUR: 'it returns false'. Refute it at one input. -/
def fnExactEdgesOfWrong : ChangeSpec := { name := "fnExactEdgesOf", fn := fun _ => fun
  | [d] => { results := [.lit (.bool false)], args := [d] }
  | _ => none }
def FnExactEdgesOfWrongFalsely : Prop := fnExactEdgesOfRow.holds Try.pinned (OpenSpec.ofChange fnExactEdgesOfWrong)

/-- 'laws.FnExactRenameGraph': WHATEVER THE INPUT: true; the input reads as it did. -/
def fnExactRenameGraphSpec : ChangeSpec := { name := "fnExactRenameGraph", fn := fun _ => fun
  | [d1, d2] => { results := [.lit (.bool true)], args := [d1, d2] }
  | _ => none }
def fnExactRenameGraphRow : OpenClaim := { program := "yteabfdcobkgmmaa", sum := "6092392010257e84f368f37d04d793f864065d28d8de295cba4dea12f0deed68", func := "loop.example/g01146/laws.FnExactRenameGraph", spec := "fnExactRenameGraph", unfollowed := true, recurses := true, apart := false }
def FnExactRenameGraphSaid : Prop := fnExactRenameGraphRow.holds Try.pinned (OpenSpec.ofChange fnExactRenameGraphSpec)

/-- ITS FALSE NEIGHBOUR: 'it returns false'. Refute it at one input. -/
def fnExactRenameGraphWrong : ChangeSpec := { name := "fnExactRenameGraph", fn := fun _ => fun
  | [d1, d2] => { results := [.lit (.bool false)], args := [d1, d2] }
  | _ => none }
def FnExactRenameGraphWrongFalsely : Prop := fnExactRenameGraphRow.holds Try.pinned (OpenSpec.ofChange fnExactRenameGraphWrong)

/- THE SECOND FORM. 'bulk': how many values and letters a reading holds, each counted each time it is reached (what is shared counts as often as it is met; a slice's spare places count too). A statement '..UptoSaid' is the law's where the arguments, and the package variables that the reading takes, are together of bulk at most 1048576: NARROWER than '..Said'. Prove '..Said' where nothing that the law and all that it calls make is longer than what came in: it says more and counts as full. Else prove '..UptoSaid'. A law counts once. -/
mutual
def uptoBulk {H : Type} : DataW H → Nat
  | .lit (.string bytes) => bytes.length + 1
  | .lit _ => 1
  | .nil => 1
  | .ptr d => uptoBulk d + 1
  | .slice elems spare => uptoBulkAll elems + uptoBulkAll spare + 1
  | .agg parts => uptoBulkAll parts + 1
  | .iface _ d => uptoBulk d + 1
  | .map entries => uptoBulkEntries entries + 1
  | .held _ => 1
def uptoBulkAll {H : Type} : List (DataW H) → Nat
  | [] => 0
  | d :: r => uptoBulk d + uptoBulkAll r
def uptoBulkEntries {H : Type} : List (Lit × DataW H) → Nat
  | [] => 0
  | x :: r => uptoBulkEntry x + uptoBulkEntries r
def uptoBulkEntry {H : Type} : Lit × DataW H → Nat
  | (.string bytes, d) => bytes.length + uptoBulk d + 1
  | (_, d) => uptoBulk d + 1
 end
def uptoSmall : (H : Type) → List (DataW H) → Bool := fun _ ds => decide (uptoBulkAll ds ≤ 1048576)
def OpenSpec.upto (s : _root_.Go.ChangeSpec) : _root_.Go.OpenSpec := { _root_.Go.OpenSpec.ofChange s with cond := some uptoSmall }

/-- 'laws.FnExactJoinGraphs', WHERE WHAT IT READS IS OF BULK AT MOST 1048576: true; the input reads as it did. -/
def fnExactJoinGraphsUptoRow : OpenClaim := { program := "yteabfdcobkgmmaa", sum := "6092392010257e84f368f37d04d793f864065d28d8de295cba4dea12f0deed68", func := "loop.example/g01146/laws.FnExactJoinGraphs", spec := "fnExactJoinGraphs", apart := false, narrowed := true }
def FnExactJoinGraphsUptoSaid : Prop := fnExactJoinGraphsUptoRow.holds Try.pinned (OpenSpec.upto fnExactJoinGraphsSpec)

/-- 'laws.FnExactGraphOf', WHERE WHAT IT READS IS OF BULK AT MOST 1048576: true; the input reads as it did. -/
def fnExactGraphOfUptoRow : OpenClaim := { program := "yteabfdcobkgmmaa", sum := "6092392010257e84f368f37d04d793f864065d28d8de295cba4dea12f0deed68", func := "loop.example/g01146/laws.FnExactGraphOf", spec := "fnExactGraphOf", apart := false, narrowed := true }
def FnExactGraphOfUptoSaid : Prop := fnExactGraphOfUptoRow.holds Try.pinned (OpenSpec.upto fnExactGraphOfSpec)

/-- 'laws.FnExactEdgesOf', WHERE WHAT IT READS IS OF BULK AT MOST 1048576: true; the input reads as it did. -/
def fnExactEdgesOfUptoRow : OpenClaim := { program := "yteabfdcobkgmmaa", sum := "6092392010257e84f368f37d04d793f864065d28d8de295cba4dea12f0deed68", func := "loop.example/g01146/laws.FnExactEdgesOf", spec := "fnExactEdgesOf", apart := false, narrowed := true }
def FnExactEdgesOfUptoSaid : Prop := fnExactEdgesOfUptoRow.holds Try.pinned (OpenSpec.upto fnExactEdgesOfSpec)

/-- 'laws.FnExactRenameGraph', WHERE WHAT IT READS IS OF BULK AT MOST 1048576: true; the input reads as it did. -/
def fnExactRenameGraphUptoRow : OpenClaim := { program := "yteabfdcobkgmmaa", sum := "6092392010257e84f368f37d04d793f864065d28d8de295cba4dea12f0deed68", func := "loop.example/g01146/laws.FnExactRenameGraph", spec := "fnExactRenameGraph", unfollowed := true, recurses := true, apart := false, narrowed := true }
def FnExactRenameGraphUptoSaid : Prop := fnExactRenameGraphUptoRow.holds Try.pinned (OpenSpec.upto fnExactRenameGraphSpec)

end Rows
end Go.Proofs.Yteabfdcobkgmmaa
