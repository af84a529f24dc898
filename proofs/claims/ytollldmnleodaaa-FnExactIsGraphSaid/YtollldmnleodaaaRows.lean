/-
  No cell of these rows narrows 'for every input' (looked for: loops, veiled, ifaces, maps, wideKeys, modest, calm, conditions, laid).
  DERIVED. THE GIVEN ROWS OF THIS SEAT. 12 by the template 'for every input the law returns true; each argument reads behind the call as it read before'; 0 by the template 'total and deterministic' (their statements: YtollldmnleodaaaTotals.lean).
  GIVEN WITH THE SEED: the statements are not yours to turn. If you find one false, say at which input.
  Laid BY PROGRAM, IN A SANDBOX (cutbox-rows.mjs): the forced cells as the released guide's own fill.sh prints them over the translation 92b22c7ff768dd56… (all of the seat's roots in one cut). By AI agents, Wed Nov 11 2026. No macro, syntax, notation, axiom, sorry.
-/
import Derived.Test.YtollldmnleodaaaChecked
import GoSem.Claim
import GoSem.ClaimJoined
import GoSem.ClaimMapViews
import Derived.JoinedTies
import Derived.KernelRfl
namespace Go.Proofs.Ytollldmnleodaaa
/- THE CELL 'sum', in the pinned program and in every row, IS THE sha256 OF THE DUMP (.gsa) THAT YtollldmnleodaaaProg.lean LOADS. Nothing in Lean hashes anything: it is a label: what it is worth is what the hold of that sum in a sandbox is worth. -/
noncomputable def Try.pinned : Pinned := { name := "ytollldmnleodaaa", sum := "92b22c7ff768dd569bc3327ee2b25abfe7ca7a84d1242a8ceb2eb566a204d16d", checked := Try.checked }
namespace Rows
def none {H : Type} : Left H := { results := [], args := [] }

/-- 'laws.FnExactFullGraph': WHATEVER THE INPUT: true; the input reads as it did. -/
def fnExactFullGraphSpec : ChangeSpec := { name := "fnExactFullGraph", fn := fun _ => fun
  | [d1, d2] => { results := [.lit (.bool true)], args := [d1, d2] }
  | _ => none }
def fnExactFullGraphRow : OpenClaim := { program := "ytollldmnleodaaa", sum := "92b22c7ff768dd569bc3327ee2b25abfe7ca7a84d1242a8ceb2eb566a204d16d", func := "loop.example/g01146/laws.FnExactFullGraph", spec := "fnExactFullGraph", apart := false }
def FnExactFullGraphSaid : Prop := fnExactFullGraphRow.holds Try.pinned (OpenSpec.ofChange fnExactFullGraphSpec)

/-- ITS FALSE NEIGHBOUR: 'it returns false'. Refute it at one input. -/
def fnExactFullGraphWrong : ChangeSpec := { name := "fnExactFullGraph", fn := fun _ => fun
  | [d1, d2] => { results := [.lit (.bool false)], args := [d1, d2] }
  | _ => none }
def FnExactFullGraphWrongFalsely : Prop := fnExactFullGraphRow.holds Try.pinned (OpenSpec.ofChange fnExactFullGraphWrong)

/-- 'laws.FnExactPathGraph': WHATEVER THE INPUT: true; the input reads as it did. -/
def fnExactPathGraphSpec : ChangeSpec := { name := "fnExactPathGraph", fn := fun _ => fun
  | [d1, d2] => { results := [.lit (.bool true)], args := [d1, d2] }
  | _ => none }
def fnExactPathGraphRow : OpenClaim := { program := "ytollldmnleodaaa", sum := "92b22c7ff768dd569bc3327ee2b25abfe7ca7a84d1242a8ceb2eb566a204d16d", func := "loop.example/g01146/laws.FnExactPathGraph", spec := "fnExactPathGraph", apart := false }
def FnExactPathGraphSaid : Prop := fnExactPathGraphRow.holds Try.pinned (OpenSpec.ofChange fnExactPathGraphSpec)

/-- ITS FALSE NEIGHBOUR: 'it returns false'. Refute it at one input. -/
def fnExactPathGraphWrong : ChangeSpec := { name := "fnExactPathGraph", fn := fun _ => fun
  | [d1, d2] => { results := [.lit (.bool false)], args := [d1, d2] }
  | _ => none }
def FnExactPathGraphWrongFalsely : Prop := fnExactPathGraphRow.holds Try.pinned (OpenSpec.ofChange fnExactPathGraphWrong)

/-- 'laws.FnExactCircleGraph': WHATEVER THE INPUT: true; the input reads as it did. -/
def fnExactCircleGraphSpec : ChangeSpec := { name := "fnExactCircleGraph", fn := fun _ => fun
  | [d1, d2] => { results := [.lit (.bool true)], args := [d1, d2] }
  | _ => none }
def fnExactCircleGraphRow : OpenClaim := { program := "ytollldmnleodaaa", sum := "92b22c7ff768dd569bc3327ee2b25abfe7ca7a84d1242a8ceb2eb566a204d16d", func := "loop.example/g01146/laws.FnExactCircleGraph", spec := "fnExactCircleGraph", apart := false }
def FnExactCircleGraphSaid : Prop := fnExactCircleGraphRow.holds Try.pinned (OpenSpec.ofChange fnExactCircleGraphSpec)

/-- ITS FALSE NEIGHBOUR: 'it returns false'. Refute it at one input. -/
def fnExactCircleGraphWrong : ChangeSpec := { name := "fnExactCircleGraph", fn := fun _ => fun
  | [d1, d2] => { results := [.lit (.bool false)], args := [d1, d2] }
  | _ => none }
def FnExactCircleGraphWrongFalsely : Prop := fnExactCircleGraphRow.holds Try.pinned (OpenSpec.ofChange fnExactCircleGraphWrong)

/-- 'laws.FnExactGridGraph': WHATEVER THE INPUT: true; the input reads as it did. -/
def fnExactGridGraphSpec : ChangeSpec := { name := "fnExactGridGraph", fn := fun _ => fun
  | [d1, d2, d3] => { results := [.lit (.bool true)], args := [d1, d2, d3] }
  | _ => none }
def fnExactGridGraphRow : OpenClaim := { program := "ytollldmnleodaaa", sum := "92b22c7ff768dd569bc3327ee2b25abfe7ca7a84d1242a8ceb2eb566a204d16d", func := "loop.example/g01146/laws.FnExactGridGraph", spec := "fnExactGridGraph", apart := false }
def FnExactGridGraphSaid : Prop := fnExactGridGraphRow.holds Try.pinned (OpenSpec.ofChange fnExactGridGraphSpec)

/-- ITS FALSE NEIGHBOUR: 'it returns false'. Refute it at one input. -/
def fnExactGridGraphWrong : ChangeSpec := { name := "fnExactGridGraph", fn := fun _ => fun
  | [d1, d2, d3] => { results := [.lit (.bool false)], args := [d1, d2, d3] }
  | _ => none }
def FnExactGridGraphWrongFalsely : Prop := fnExactGridGraphRow.holds Try.pinned (OpenSpec.ofChange fnExactGridGraphWrong)

/-- 'laws.FnExactFirstRowMap': WHATEVER THE INPUT: true; the input reads as it did. -/
def fnExactFirstRowMapSpec : ChangeSpec := { name := "fnExactFirstRowMap", fn := fun _ => fun
  | [d1, d2, d3] => { results := [.lit (.bool true)], args := [d1, d2, d3] }
  | _ => none }
def fnExactFirstRowMapRow : OpenClaim := { program := "ytollldmnleodaaa", sum := "92b22c7ff768dd569bc3327ee2b25abfe7ca7a84d1242a8ceb2eb566a204d16d", func := "loop.example/g01146/laws.FnExactFirstRowMap", spec := "fnExactFirstRowMap", apart := false }
def FnExactFirstRowMapSaid : Prop := fnExactFirstRowMapRow.holds Try.pinned (OpenSpec.ofChange fnExactFirstRowMapSpec)

/-- ITS FALSE NEIGHBOUR: 'it returns false'. Refute it at one input. -/
def fnExactFirstRowMapWrong : ChangeSpec := { name := "fnExactFirstRowMap", fn := fun _ => fun
  | [d1, d2, d3] => { results := [.lit (.bool false)], args := [d1, d2, d3] }
  | _ => none }
def FnExactFirstRowMapWrongFalsely : Prop := fnExactFirstRowMapRow.holds Try.pinned (OpenSpec.ofChange fnExactFirstRowMapWrong)

/-- 'laws.FnExactIsGraph': WHATEVER THE INPUT: true; the input reads as it did. -/
def fnExactIsGraphSpec : ChangeSpec := { name := "fnExactIsGraph", fn := fun _ => fun
  | [d] => { results := [.lit (.bool true)], args := [d] }
  | _ => none }
def fnExactIsGraphRow : OpenClaim := { program := "ytollldmnleodaaa", sum := "92b22c7ff768dd569bc3327ee2b25abfe7ca7a84d1242a8ceb2eb566a204d16d", func := "loop.example/g01146/laws.FnExactIsGraph", spec := "fnExactIsGraph", apart := false }
def FnExactIsGraphSaid : Prop := fnExactIsGraphRow.holds Try.pinned (OpenSpec.ofChange fnExactIsGraphSpec)

/-- ITS FALSE NEIGHBOUR: 'it returns false'. Refute it at one input. -/
def fnExactIsGraphWrong : ChangeSpec := { name := "fnExactIsGraph", fn := fun _ => fun
  | [d] => { results := [.lit (.bool false)], args := [d] }
  | _ => none }
def FnExactIsGraphWrongFalsely : Prop := fnExactIsGraphRow.holds Try.pinned (OpenSpec.ofChange fnExactIsGraphWrong)

/-- 'laws.FnExactSolveByChase': WHATEVER THE INPUT: true; the input reads as it did. -/
def fnExactSolveByChaseSpec : ChangeSpec := { name := "fnExactSolveByChase", fn := fun _ => fun
  | [d1, d2, d3, d4] => { results := [.lit (.bool true)], args := [d1, d2, d3, d4] }
  | _ => none }
def fnExactSolveByChaseRow : OpenClaim := { program := "ytollldmnleodaaa", sum := "92b22c7ff768dd569bc3327ee2b25abfe7ca7a84d1242a8ceb2eb566a204d16d", func := "loop.example/g01146/laws.FnExactSolveByChase", spec := "fnExactSolveByChase", apart := false }
def FnExactSolveByChaseSaid : Prop := fnExactSolveByChaseRow.holds Try.pinned (OpenSpec.ofChange fnExactSolveByChaseSpec)

/-- ITS FALSE NEIGHBOUR: 'it returns false'. Refute it at one input. -/
def fnExactSolveByChaseWrong : ChangeSpec := { name := "fnExactSolveByChase", fn := fun _ => fun
  | [d1, d2, d3, d4] => { results := [.lit (.bool false)], args := [d1, d2, d3, d4] }
  | _ => none }
def FnExactSolveByChaseWrongFalsely : Prop := fnExactSolveByChaseRow.holds Try.pinned (OpenSpec.ofChange fnExactSolveByChaseWrong)

/-- 'laws.FnExactFirstRows': WHATEVER THE INPUT: true; the input reads as it did. -/
def fnExactFirstRowsSpec : ChangeSpec := { name := "fnExactFirstRows", fn := fun _ => fun
  | [d1, d2, d3, d4] => { results := [.lit (.bool true)], args := [d1, d2, d3, d4] }
  | _ => none }
def fnExactFirstRowsRow : OpenClaim := { program := "ytollldmnleodaaa", sum := "92b22c7ff768dd569bc3327ee2b25abfe7ca7a84d1242a8ceb2eb566a204d16d", func := "loop.example/g01146/laws.FnExactFirstRows", spec := "fnExactFirstRows", apart := false }
def FnExactFirstRowsSaid : Prop := fnExactFirstRowsRow.holds Try.pinned (OpenSpec.ofChange fnExactFirstRowsSpec)

/-- ITS FALSE NEIGHBOUR: 'it returns false'. Refute it at one input. -/
def fnExactFirstRowsWrong : ChangeSpec := { name := "fnExactFirstRows", fn := fun _ => fun
  | [d1, d2, d3, d4] => { results := [.lit (.bool false)], args := [d1, d2, d3, d4] }
  | _ => none }
def FnExactFirstRowsWrongFalsely : Prop := fnExactFirstRowsRow.holds Try.pinned (OpenSpec.ofChange fnExactFirstRowsWrong)

/-- 'laws.FnExactTorusGraph': WHATEVER THE INPUT: true; the input reads as it did. -/
def fnExactTorusGraphSpec : ChangeSpec := { name := "fnExactTorusGraph", fn := fun _ => fun
  | [d1, d2, d3] => { results := [.lit (.bool true)], args := [d1, d2, d3] }
  | _ => none }
def fnExactTorusGraphRow : OpenClaim := { program := "ytollldmnleodaaa", sum := "92b22c7ff768dd569bc3327ee2b25abfe7ca7a84d1242a8ceb2eb566a204d16d", func := "loop.example/g01146/laws.FnExactTorusGraph", spec := "fnExactTorusGraph", apart := false }
def FnExactTorusGraphSaid : Prop := fnExactTorusGraphRow.holds Try.pinned (OpenSpec.ofChange fnExactTorusGraphSpec)

/-- ITS FALSE NEIGHBOUR: 'it returns false'. Refute it at one input. -/
def fnExactTorusGraphWrong : ChangeSpec := { name := "fnExactTorusGraph", fn := fun _ => fun
  | [d1, d2, d3] => { results := [.lit (.bool false)], args := [d1, d2, d3] }
  | _ => none }
def FnExactTorusGraphWrongFalsely : Prop := fnExactTorusGraphRow.holds Try.pinned (OpenSpec.ofChange fnExactTorusGraphWrong)

/-- 'laws.FnExactLastRowTable': WHATEVER THE INPUT: true; the input reads as it did. -/
def fnExactLastRowTableSpec : ChangeSpec := { name := "fnExactLastRowTable", fn := fun _ => fun
  | [d1, d2, d3] => { results := [.lit (.bool true)], args := [d1, d2, d3] }
  | _ => none }
def fnExactLastRowTableRow : OpenClaim := { program := "ytollldmnleodaaa", sum := "92b22c7ff768dd569bc3327ee2b25abfe7ca7a84d1242a8ceb2eb566a204d16d", func := "loop.example/g01146/laws.FnExactLastRowTable", spec := "fnExactLastRowTable", apart := false }
def FnExactLastRowTableSaid : Prop := fnExactLastRowTableRow.holds Try.pinned (OpenSpec.ofChange fnExactLastRowTableSpec)

/-- ITS FALSE NEIGHBOUR: 'it returns false'. Refute it at one input. -/
def fnExactLastRowTableWrong : ChangeSpec := { name := "fnExactLastRowTable", fn := fun _ => fun
  | [d1, d2, d3] => { results := [.lit (.bool false)], args := [d1, d2, d3] }
  | _ => none }
def FnExactLastRowTableWrongFalsely : Prop := fnExactLastRowTableRow.holds Try.pinned (OpenSpec.ofChange fnExactLastRowTableWrong)

/-- 'laws.FnExactGraphOf': WHATEVER THE INPUT: true; the input reads as it did. -/
def fnExactGraphOfSpec : ChangeSpec := { name := "fnExactGraphOf", fn := fun _ => fun
  | [d1, d2, d3] => { results := [.lit (.bool true)], args := [d1, d2, d3] }
  | _ => none }
def fnExactGraphOfRow : OpenClaim := { program := "ytollldmnleodaaa", sum := "92b22c7ff768dd569bc3327ee2b25abfe7ca7a84d1242a8ceb2eb566a204d16d", func := "loop.example/g01146/laws.FnExactGraphOf", spec := "fnExactGraphOf", apart := false }
def FnExactGraphOfSaid : Prop := fnExactGraphOfRow.holds Try.pinned (OpenSpec.ofChange fnExactGraphOfSpec)

/-- ITS FALSE NEIGHBOUR: 'it returns false'. Refute it at one input. -/
def fnExactGraphOfWrong : ChangeSpec := { name := "fnExactGraphOf", fn := fun _ => fun
  | [d1, d2, d3] => { results := [.lit (.bool false)], args := [d1, d2, d3] }
  | _ => none }
def FnExactGraphOfWrongFalsely : Prop := fnExactGraphOfRow.holds Try.pinned (OpenSpec.ofChange fnExactGraphOfWrong)

/-- 'laws.FnExactEdgesOf': WHATEVER THE INPUT: true; the input reads as it did. -/
def fnExactEdgesOfSpec : ChangeSpec := { name := "fnExactEdgesOf", fn := fun _ => fun
  | [d] => { results := [.lit (.bool true)], args := [d] }
  | _ => none }
def fnExactEdgesOfRow : OpenClaim := { program := "ytollldmnleodaaa", sum := "92b22c7ff768dd569bc3327ee2b25abfe7ca7a84d1242a8ceb2eb566a204d16d", func := "loop.example/g01146/laws.FnExactEdgesOf", spec := "fnExactEdgesOf", apart := false }
def FnExactEdgesOfSaid : Prop := fnExactEdgesOfRow.holds Try.pinned (OpenSpec.ofChange fnExactEdgesOfSpec)

/-- ITS FALSE NEIGHBOUR: 'it returns false'. Refute it at one input. -/
def fnExactEdgesOfWrong : ChangeSpec := { name := "fnExactEdgesOf", fn := fun _ => fun
  | [d] => { results := [.lit (.bool false)], args := [d] }
  | _ => none }
def FnExactEdgesOfWrongFalsely : Prop := fnExactEdgesOfRow.holds Try.pinned (OpenSpec.ofChange fnExactEdgesOfWrong)

/- THE SECOND FORM. 'bulk': how many values and letters a reading holds, each counted each time it is reached (what is shared counts as often as it is met; a slice's spare places count too). A statement '..UptoSaid' is the law's where the arguments, and the package variables that the reading takes, are together of bulk at most 1048576: NARROWER than '..Said'. Prove '..Said' where nothing that the law and all that it calls make is longer than what came in: it says more and counts as full. Else prove '..UptoSaid'. A law counts once. -/
mutual
def uptoBulk {H : Type} : DataW H → Nat
  | .lit (.string bytes) => bytes.length + 1
  | .lit _ => 1
  | .nil => 1
  | .ptr d => uptoBulk d + 1
  | .slice elems spare => uptoBulkAll elems + uptoBulkAll spare + 1
  | .agg parts => uptoBulkAll parts + 1
  | .iface _ d => uptoBulk d + 1
  | .map entries => uptoBulkEntries entries + 1
  | .held _ => 1
def uptoBulkAll {H : Type} : List (DataW H) → Nat
  | [] => 0
  | d :: r => uptoBulk d + uptoBulkAll r
def uptoBulkEntries {H : Type} : List (Lit × DataW H) → Nat
  | [] => 0
  | x :: r => uptoBulkEntry x + uptoBulkEntries r
def uptoBulkEntry {H : Type} : Lit × DataW H → Nat
  | (.string bytes, d) => bytes.length + uptoBulk d + 1
  | (_, d) => uptoBulk d + 1
 end
def uptoSmall : (H : Type) → List (DataW H) → Bool := fun _ ds => decide (uptoBulkAll ds ≤ 1048576)
def OpenSpec.upto (s : _root_.Go.ChangeSpec) : _root_.Go.OpenSpec := { _root_.Go.OpenSpec.ofChange s with cond := some uptoSmall }

/-- 'laws.FnExactFullGraph', WHERE WHAT IT READS IS OF BULK AT MOST 1048576: true; the input reads as it did. -/
def fnExactFullGraphUptoRow : OpenClaim := { program := "ytollldmnleodaaa", sum := "92b22c7ff768dd569bc3327ee2b25abfe7ca7a84d1242a8ceb2eb566a204d16d", func := "loop.example/g01146/laws.FnExactFullGraph", spec := "fnExactFullGraph", apart := false, narrowed := true }
def FnExactFullGraphUptoSaid : Prop := fnExactFullGraphUptoRow.holds Try.pinned (OpenSpec.upto fnExactFullGraphSpec)

/-- 'laws.FnExactPathGraph', WHERE WHAT IT READS IS OF BULK AT MOST 1048576: true; the input reads as it did. -/
def fnExactPathGraphUptoRow : OpenClaim := { program := "ytollldmnleodaaa", sum := "92b22c7ff768dd569bc3327ee2b25abfe7ca7a84d1242a8ceb2eb566a204d16d", func := "loop.example/g01146/laws.FnExactPathGraph", spec := "fnExactPathGraph", apart := false, narrowed := true }
def FnExactPathGraphUptoSaid : Prop := fnExactPathGraphUptoRow.holds Try.pinned (OpenSpec.upto fnExactPathGraphSpec)

/-- 'laws.FnExactCircleGraph', WHERE WHAT IT READS IS OF BULK AT MOST 1048576: true; the input reads as it did. -/
def fnExactCircleGraphUptoRow : OpenClaim := { program := "ytollldmnleodaaa", sum := "92b22c7ff768dd569bc3327ee2b25abfe7ca7a84d1242a8ceb2eb566a204d16d", func := "loop.example/g01146/laws.FnExactCircleGraph", spec := "fnExactCircleGraph", apart := false, narrowed := true }
def FnExactCircleGraphUptoSaid : Prop := fnExactCircleGraphUptoRow.holds Try.pinned (OpenSpec.upto fnExactCircleGraphSpec)

/-- 'laws.FnExactGridGraph', WHERE WHAT IT READS IS OF BULK AT MOST 1048576: true; the input reads as it did. -/
def fnExactGridGraphUptoRow : OpenClaim := { program := "ytollldmnleodaaa", sum := "92b22c7ff768dd569bc3327ee2b25abfe7ca7a84d1242a8ceb2eb566a204d16d", func := "loop.example/g01146/laws.FnExactGridGraph", spec := "fnExactGridGraph", apart := false, narrowed := true }
def FnExactGridGraphUptoSaid : Prop := fnExactGridGraphUptoRow.holds Try.pinned (OpenSpec.upto fnExactGridGraphSpec)

/-- 'laws.FnExactFirstRowMap', WHERE WHAT IT READS IS OF BULK AT MOST 1048576: true; the input reads as it did. -/
def fnExactFirstRowMapUptoRow : OpenClaim := { program := "ytollldmnleodaaa", sum := "92b22c7ff768dd569bc3327ee2b25abfe7ca7a84d1242a8ceb2eb566a204d16d", func := "loop.example/g01146/laws.FnExactFirstRowMap", spec := "fnExactFirstRowMap", apart := false, narrowed := true }
def FnExactFirstRowMapUptoSaid : Prop := fnExactFirstRowMapUptoRow.holds Try.pinned (OpenSpec.upto fnExactFirstRowMapSpec)

/-- 'laws.FnExactIsGraph', WHERE WHAT IT READS IS OF BULK AT MOST 1048576: true; the input reads as it did. -/
def fnExactIsGraphUptoRow : OpenClaim := { program := "ytollldmnleodaaa", sum := "92b22c7ff768dd569bc3327ee2b25abfe7ca7a84d1242a8ceb2eb566a204d16d", func := "loop.example/g01146/laws.FnExactIsGraph", spec := "fnExactIsGraph", apart := false, narrowed := true }
def FnExactIsGraphUptoSaid : Prop := fnExactIsGraphUptoRow.holds Try.pinned (OpenSpec.upto fnExactIsGraphSpec)

/-- 'laws.FnExactSolveByChase', WHERE WHAT IT READS IS OF BULK AT MOST 1048576: true; the input reads as it did. -/
def fnExactSolveByChaseUptoRow : OpenClaim := { program := "ytollldmnleodaaa", sum := "92b22c7ff768dd569bc3327ee2b25abfe7ca7a84d1242a8ceb2eb566a204d16d", func := "loop.example/g01146/laws.FnExactSolveByChase", spec := "fnExactSolveByChase", apart := false, narrowed := true }
def FnExactSolveByChaseUptoSaid : Prop := fnExactSolveByChaseUptoRow.holds Try.pinned (OpenSpec.upto fnExactSolveByChaseSpec)

/-- 'laws.FnExactFirstRows', WHERE WHAT IT READS IS OF BULK AT MOST 1048576: true; the input reads as it did. -/
def fnExactFirstRowsUptoRow : OpenClaim := { program := "ytollldmnleodaaa", sum := "92b22c7ff768dd569bc3327ee2b25abfe7ca7a84d1242a8ceb2eb566a204d16d", func := "loop.example/g01146/laws.FnExactFirstRows", spec := "fnExactFirstRows", apart := false, narrowed := true }
def FnExactFirstRowsUptoSaid : Prop := fnExactFirstRowsUptoRow.holds Try.pinned (OpenSpec.upto fnExactFirstRowsSpec)

/-- 'laws.FnExactTorusGraph', WHERE WHAT IT READS IS OF BULK AT MOST 1048576: true; the input reads as it did. -/
def fnExactTorusGraphUptoRow : OpenClaim := { program := "ytollldmnleodaaa", sum := "92b22c7ff768dd569bc3327ee2b25abfe7ca7a84d1242a8ceb2eb566a204d16d", func := "loop.example/g01146/laws.FnExactTorusGraph", spec := "fnExactTorusGraph", apart := false, narrowed := true }
def FnExactTorusGraphUptoSaid : Prop := fnExactTorusGraphUptoRow.holds Try.pinned (OpenSpec.upto fnExactTorusGraphSpec)

/-- 'laws.FnExactLastRowTable', WHERE WHAT IT READS IS OF BULK AT MOST 1048576: true; the input reads as it did. -/
def fnExactLastRowTableUptoRow : OpenClaim := { program := "ytollldmnleodaaa", sum := "92b22c7ff768dd569bc3327ee2b25abfe7ca7a84d1242a8ceb2eb566a204d16d", func := "loop.example/g01146/laws.FnExactLastRowTable", spec := "fnExactLastRowTable", apart := false, narrowed := true }
def FnExactLastRowTableUptoSaid : Prop := fnExactLastRowTableUptoRow.holds Try.pinned (OpenSpec.upto fnExactLastRowTableSpec)

/-- 'laws.FnExactGraphOf', WHERE WHAT IT READS IS OF BULK AT MOST 1048576: true; the input reads as it did. -/
def fnExactGraphOfUptoRow : OpenClaim := { program := "ytollldmnleodaaa", sum := "92b22c7ff768dd569bc3327ee2b25abfe7ca7a84d1242a8ceb2eb566a204d16d", func := "loop.example/g01146/laws.FnExactGraphOf", spec := "fnExactGraphOf", apart := false, narrowed := true }
def FnExactGraphOfUptoSaid : Prop := fnExactGraphOfUptoRow.holds Try.pinned (OpenSpec.upto fnExactGraphOfSpec)

/-- 'laws.FnExactEdgesOf', WHERE WHAT IT READS IS OF BULK AT MOST 1048576: true; the input reads as it did. -/
def fnExactEdgesOfUptoRow : OpenClaim := { program := "ytollldmnleodaaa", sum := "92b22c7ff768dd569bc3327ee2b25abfe7ca7a84d1242a8ceb2eb566a204d16d", func := "loop.example/g01146/laws.FnExactEdgesOf", spec := "fnExactEdgesOf", apart := false, narrowed := true }
def FnExactEdgesOfUptoSaid : Prop := fnExactEdgesOfUptoRow.holds Try.pinned (OpenSpec.upto fnExactEdgesOfSpec)

end Rows
end Go.Proofs.Ytollldmnleodaaa
