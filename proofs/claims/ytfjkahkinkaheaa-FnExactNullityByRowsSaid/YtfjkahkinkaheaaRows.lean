/-
  No cell of these rows narrows 'for every input' (looked for: loops, veiled, ifaces, maps, wideKeys, modest, calm, conditions, laid).
  DERIVED. THE GIVEN ROWS OF THIS SEAT. 12 by the template 'for every input the law returns true; each argument reads behind the call as it read before'; 0 by the template 'total and deterministic' (their statements: YtfjkahkinkaheaaTotals.lean).
  GIVEN WITH THE SEED: the statements are not yours to turn. If you find one false, say at which input.
  Laid BY PROGRAM, IN A SANDBOX (cutbox-rows.mjs): the forced cells as the released guide's own fill.sh prints them over the translation ac187fe412afa745… (all of the seat's roots in one cut). By AI agents, Wed Nov 11 2026. No macro, syntax, notation, axiom, sorry.
-/
import Derived.Test.YtfjkahkinkaheaaChecked
import GoSem.Claim
import GoSem.ClaimJoined
import GoSem.ClaimMapViews
import Derived.JoinedTies
import Derived.KernelRfl
namespace Go.Proofs.Ytfjkahkinkaheaa
/- THE CELL 'sum', in the pinned program and in every row, IS THE sha256 OF THE DUMP (.gsa) THAT YtfjkahkinkaheaaProg.lean LOADS. Nothing in Lean hashes anything: it is a label: what it is worth is what the hold of that sum in a sandbox is worth. -/
noncomputable def Try.pinned : Pinned := { name := "ytfjkahkinkaheaa", sum := "ac187fe412afa745e8194373d2a0f35449bdf207dad59ff66aeb9fdfe83b2932", checked := Try.checked }
namespace Rows
def none {H : Type} : Left H := { results := [], args := [] }

/-- 'laws.FnExactNullityByRows': WHATEVER THE INPUT: true; the input reads as it did. -/
def fnExactNullityByRowsSpec : ChangeSpec := { name := "fnExactNullityByRows", fn := fun _ => fun
  | [d1, d2, d3] => { results := [.lit (.bool true)], args := [d1, d2, d3] }
  | _ => none }
def fnExactNullityByRowsRow : OpenClaim := { program := "ytfjkahkinkaheaa", sum := "ac187fe412afa745e8194373d2a0f35449bdf207dad59ff66aeb9fdfe83b2932", func := "loop.example/g01146/laws.FnExactNullityByRows", spec := "fnExactNullityByRows", unfollowed := true, recurses := true, apart := false }
def FnExactNullityByRowsSaid : Prop := fnExactNullityByRowsRow.holds Try.pinned (OpenSpec.ofChange fnExactNullityByRowsSpec)

/-- ITS FALSE NEIGHBOUR: 'it returns false'. Refute it at one input. -/
def fnExactNullityByRowsWrong : ChangeSpec := { name := "fnExactNullityByRows", fn := fun _ => fun
  | [d1, d2, d3] => { results := [.lit (.bool false)], args := [d1, d2, d3] }
  | _ => none }
def FnExactNullityByRowsWrongFalsely : Prop := fnExactNullityByRowsRow.holds Try.pinned (OpenSpec.ofChange fnExactNullityByRowsWrong)

/-- 'laws.FnExactNullitiesByRows': WHATEVER THE INPUT: true; the input reads as it did. -/
def fnExactNullitiesByRowsSpec : ChangeSpec := { name := "fnExactNullitiesByRows", fn := fun _ => fun
  | [d1, d2, d3] => { results := [.lit (.bool true)], args := [d1, d2, d3] }
  | _ => none }
def fnExactNullitiesByRowsRow : OpenClaim := { program := "ytfjkahkinkaheaa", sum := "ac187fe412afa745e8194373d2a0f35449bdf207dad59ff66aeb9fdfe83b2932", func := "loop.example/g01146/laws.FnExactNullitiesByRows", spec := "fnExactNullitiesByRows", unfollowed := true, recurses := true, apart := false }
def FnExactNullitiesByRowsSaid : Prop := fnExactNullitiesByRowsRow.holds Try.pinned (OpenSpec.ofChange fnExactNullitiesByRowsSpec)

/-- ITS FALSE NEIGHBOUR: 'it returns false'. Refute it at one input. -/
def fnExactNullitiesByRowsWrong : ChangeSpec := { name := "fnExactNullitiesByRows", fn := fun _ => fun
  | [d1, d2, d3] => { results := [.lit (.bool false)], args := [d1, d2, d3] }
  | _ => none }
def FnExactNullitiesByRowsWrongFalsely : Prop := fnExactNullitiesByRowsRow.holds Try.pinned (OpenSpec.ofChange fnExactNullitiesByRowsWrong)

/-- 'laws.FnExactCountSolvable': WHATEVER THE INPUT: true; the input reads as it did. -/
def fnExactCountSolvableSpec : ChangeSpec := { name := "fnExactCountSolvable", fn := fun _ => fun
  | [d] => { results := [.lit (.bool true)], args := [d] }
  | _ => none }
def fnExactCountSolvableRow : OpenClaim := { program := "ytfjkahkinkaheaa", sum := "ac187fe412afa745e8194373d2a0f35449bdf207dad59ff66aeb9fdfe83b2932", func := "loop.example/g01146/laws.FnExactCountSolvable", spec := "fnExactCountSolvable", unfollowed := true, recurses := true, apart := false }
def FnExactCountSolvableSaid : Prop := fnExactCountSolvableRow.holds Try.pinned (OpenSpec.ofChange fnExactCountSolvableSpec)

/-- ITS FALSE NEIGHBOUR: 'it returns false'. Refute it at one input. -/
def fnExactCountSolvableWrong : ChangeSpec := { name := "fnExactCountSolvable", fn := fun _ => fun
  | [d] => { results := [.lit (.bool false)], args := [d] }
  | _ => none }
def FnExactCountSolvableWrongFalsely : Prop := fnExactCountSolvableRow.holds Try.pinned (OpenSpec.ofChange fnExactCountSolvableWrong)

/-- 'laws.FnExactRankOf': WHATEVER THE INPUT: true; the input reads as it did. -/
def fnExactRankOfSpec : ChangeSpec := { name := "fnExactRankOf", fn := fun _ => fun
  | [d] => { results := [.lit (.bool true)], args := [d] }
  | _ => none }
def fnExactRankOfRow : OpenClaim := { program := "ytfjkahkinkaheaa", sum := "ac187fe412afa745e8194373d2a0f35449bdf207dad59ff66aeb9fdfe83b2932", func := "loop.example/g01146/laws.FnExactRankOf", spec := "fnExactRankOf", unfollowed := true, recurses := true, apart := false }
def FnExactRankOfSaid : Prop := fnExactRankOfRow.holds Try.pinned (OpenSpec.ofChange fnExactRankOfSpec)

/-- ITS FALSE NEIGHBOUR: 'it returns false'. Refute it at one input. -/
def fnExactRankOfWrong : ChangeSpec := { name := "fnExactRankOf", fn := fun _ => fun
  | [d] => { results := [.lit (.bool false)], args := [d] }
  | _ => none }
def FnExactRankOfWrongFalsely : Prop := fnExactRankOfRow.holds Try.pinned (OpenSpec.ofChange fnExactRankOfWrong)

/-- 'laws.FnExactNullityOf': WHATEVER THE INPUT: true; the input reads as it did. -/
def fnExactNullityOfSpec : ChangeSpec := { name := "fnExactNullityOf", fn := fun _ => fun
  | [d] => { results := [.lit (.bool true)], args := [d] }
  | _ => none }
def fnExactNullityOfRow : OpenClaim := { program := "ytfjkahkinkaheaa", sum := "ac187fe412afa745e8194373d2a0f35449bdf207dad59ff66aeb9fdfe83b2932", func := "loop.example/g01146/laws.FnExactNullityOf", spec := "fnExactNullityOf", unfollowed := true, recurses := true, apart := false }
def FnExactNullityOfSaid : Prop := fnExactNullityOfRow.holds Try.pinned (OpenSpec.ofChange fnExactNullityOfSpec)

/-- ITS FALSE NEIGHBOUR: 'it returns false'. Refute it at one input. -/
def fnExactNullityOfWrong : ChangeSpec := { name := "fnExactNullityOf", fn := fun _ => fun
  | [d] => { results := [.lit (.bool false)], args := [d] }
  | _ => none }
def FnExactNullityOfWrongFalsely : Prop := fnExactNullityOfRow.holds Try.pinned (OpenSpec.ofChange fnExactNullityOfWrong)

/-- 'laws.FnExactCanSolve': WHATEVER THE INPUT: true; the input reads as it did. -/
def fnExactCanSolveSpec : ChangeSpec := { name := "fnExactCanSolve", fn := fun _ => fun
  | [d1, d2] => { results := [.lit (.bool true)], args := [d1, d2] }
  | _ => none }
def fnExactCanSolveRow : OpenClaim := { program := "ytfjkahkinkaheaa", sum := "ac187fe412afa745e8194373d2a0f35449bdf207dad59ff66aeb9fdfe83b2932", func := "loop.example/g01146/laws.FnExactCanSolve", spec := "fnExactCanSolve", unfollowed := true, recurses := true, apart := false }
def FnExactCanSolveSaid : Prop := fnExactCanSolveRow.holds Try.pinned (OpenSpec.ofChange fnExactCanSolveSpec)

/-- ITS FALSE NEIGHBOUR: 'it returns false'. Refute it at one input. -/
def fnExactCanSolveWrong : ChangeSpec := { name := "fnExactCanSolve", fn := fun _ => fun
  | [d1, d2] => { results := [.lit (.bool false)], args := [d1, d2] }
  | _ => none }
def FnExactCanSolveWrongFalsely : Prop := fnExactCanSolveRow.holds Try.pinned (OpenSpec.ofChange fnExactCanSolveWrong)

/-- 'laws.FnExactImageBasis': WHATEVER THE INPUT: true; the input reads as it did. -/
def fnExactImageBasisSpec : ChangeSpec := { name := "fnExactImageBasis", fn := fun _ => fun
  | [d] => { results := [.lit (.bool true)], args := [d] }
  | _ => none }
def fnExactImageBasisRow : OpenClaim := { program := "ytfjkahkinkaheaa", sum := "ac187fe412afa745e8194373d2a0f35449bdf207dad59ff66aeb9fdfe83b2932", func := "loop.example/g01146/laws.FnExactImageBasis", spec := "fnExactImageBasis", unfollowed := true, recurses := true, apart := false }
def FnExactImageBasisSaid : Prop := fnExactImageBasisRow.holds Try.pinned (OpenSpec.ofChange fnExactImageBasisSpec)

/-- ITS FALSE NEIGHBOUR: 'it returns false'. Refute it at one input. -/
def fnExactImageBasisWrong : ChangeSpec := { name := "fnExactImageBasis", fn := fun _ => fun
  | [d] => { results := [.lit (.bool false)], args := [d] }
  | _ => none }
def FnExactImageBasisWrongFalsely : Prop := fnExactImageBasisRow.holds Try.pinned (OpenSpec.ofChange fnExactImageBasisWrong)

/-- 'laws.FnExactQuietBasis': WHATEVER THE INPUT: true; the input reads as it did. -/
def fnExactQuietBasisSpec : ChangeSpec := { name := "fnExactQuietBasis", fn := fun _ => fun
  | [d] => { results := [.lit (.bool true)], args := [d] }
  | _ => none }
def fnExactQuietBasisRow : OpenClaim := { program := "ytfjkahkinkaheaa", sum := "ac187fe412afa745e8194373d2a0f35449bdf207dad59ff66aeb9fdfe83b2932", func := "loop.example/g01146/laws.FnExactQuietBasis", spec := "fnExactQuietBasis", unfollowed := true, recurses := true, apart := false }
def FnExactQuietBasisSaid : Prop := fnExactQuietBasisRow.holds Try.pinned (OpenSpec.ofChange fnExactQuietBasisSpec)

/-- ITS FALSE NEIGHBOUR: 'it returns false'. Refute it at one input. -/
def fnExactQuietBasisWrong : ChangeSpec := { name := "fnExactQuietBasis", fn := fun _ => fun
  | [d] => { results := [.lit (.bool false)], args := [d] }
  | _ => none }
def FnExactQuietBasisWrongFalsely : Prop := fnExactQuietBasisRow.holds Try.pinned (OpenSpec.ofChange fnExactQuietBasisWrong)

/-- 'laws.FnExactCountSolutions': WHATEVER THE INPUT: true; the input reads as it did. -/
def fnExactCountSolutionsSpec : ChangeSpec := { name := "fnExactCountSolutions", fn := fun _ => fun
  | [d1, d2] => { results := [.lit (.bool true)], args := [d1, d2] }
  | _ => none }
def fnExactCountSolutionsRow : OpenClaim := { program := "ytfjkahkinkaheaa", sum := "ac187fe412afa745e8194373d2a0f35449bdf207dad59ff66aeb9fdfe83b2932", func := "loop.example/g01146/laws.FnExactCountSolutions", spec := "fnExactCountSolutions", unfollowed := true, recurses := true, apart := false }
def FnExactCountSolutionsSaid : Prop := fnExactCountSolutionsRow.holds Try.pinned (OpenSpec.ofChange fnExactCountSolutionsSpec)

/-- ITS FALSE NEIGHBOUR: 'it returns false'. Refute it at one input. -/
def fnExactCountSolutionsWrong : ChangeSpec := { name := "fnExactCountSolutions", fn := fun _ => fun
  | [d1, d2] => { results := [.lit (.bool false)], args := [d1, d2] }
  | _ => none }
def FnExactCountSolutionsWrongFalsely : Prop := fnExactCountSolutionsRow.holds Try.pinned (OpenSpec.ofChange fnExactCountSolutionsWrong)

/-- 'laws.FnExactSolveBoard': WHATEVER THE INPUT: true; the input reads as it did. -/
def fnExactSolveBoardSpec : ChangeSpec := { name := "fnExactSolveBoard", fn := fun _ => fun
  | [d1, d2] => { results := [.lit (.bool true)], args := [d1, d2] }
  | _ => none }
def fnExactSolveBoardRow : OpenClaim := { program := "ytfjkahkinkaheaa", sum := "ac187fe412afa745e8194373d2a0f35449bdf207dad59ff66aeb9fdfe83b2932", func := "loop.example/g01146/laws.FnExactSolveBoard", spec := "fnExactSolveBoard", unfollowed := true, recurses := true, apart := false }
def FnExactSolveBoardSaid : Prop := fnExactSolveBoardRow.holds Try.pinned (OpenSpec.ofChange fnExactSolveBoardSpec)

/-- ITS FALSE NEIGHBOUR: 'it returns false'. Refute it at one input. -/
def fnExactSolveBoardWrong : ChangeSpec := { name := "fnExactSolveBoard", fn := fun _ => fun
  | [d1, d2] => { results := [.lit (.bool false)], args := [d1, d2] }
  | _ => none }
def FnExactSolveBoardWrongFalsely : Prop := fnExactSolveBoardRow.holds Try.pinned (OpenSpec.ofChange fnExactSolveBoardWrong)

/-- 'laws.FnExactAllOn': WHATEVER THE INPUT: true; the input reads as it did. -/
def fnExactAllOnSpec : ChangeSpec := { name := "fnExactAllOn", fn := fun _ => fun
  | [d] => { results := [.lit (.bool true)], args := [d] }
  | _ => none }
def fnExactAllOnRow : OpenClaim := { program := "ytfjkahkinkaheaa", sum := "ac187fe412afa745e8194373d2a0f35449bdf207dad59ff66aeb9fdfe83b2932", func := "loop.example/g01146/laws.FnExactAllOn", spec := "fnExactAllOn", unfollowed := true, recurses := true, apart := false }
def FnExactAllOnSaid : Prop := fnExactAllOnRow.holds Try.pinned (OpenSpec.ofChange fnExactAllOnSpec)

/-- ITS FALSE NEIGHBOUR: 'it returns false'. Refute it at one input. -/
def fnExactAllOnWrong : ChangeSpec := { name := "fnExactAllOn", fn := fun _ => fun
  | [d] => { results := [.lit (.bool false)], args := [d] }
  | _ => none }
def FnExactAllOnWrongFalsely : Prop := fnExactAllOnRow.holds Try.pinned (OpenSpec.ofChange fnExactAllOnWrong)

/-- 'laws.FnExactWitnessOf': WHATEVER THE INPUT: true; the input reads as it did. -/
def fnExactWitnessOfSpec : ChangeSpec := { name := "fnExactWitnessOf", fn := fun _ => fun
  | [d1, d2] => { results := [.lit (.bool true)], args := [d1, d2] }
  | _ => none }
def fnExactWitnessOfRow : OpenClaim := { program := "ytfjkahkinkaheaa", sum := "ac187fe412afa745e8194373d2a0f35449bdf207dad59ff66aeb9fdfe83b2932", func := "loop.example/g01146/laws.FnExactWitnessOf", spec := "fnExactWitnessOf", unfollowed := true, recurses := true, apart := false }
def FnExactWitnessOfSaid : Prop := fnExactWitnessOfRow.holds Try.pinned (OpenSpec.ofChange fnExactWitnessOfSpec)

/-- ITS FALSE NEIGHBOUR: 'it returns false'. Refute it at one input. -/
def fnExactWitnessOfWrong : ChangeSpec := { name := "fnExactWitnessOf", fn := fun _ => fun
  | [d1, d2] => { results := [.lit (.bool false)], args := [d1, d2] }
  | _ => none }
def FnExactWitnessOfWrongFalsely : Prop := fnExactWitnessOfRow.holds Try.pinned (OpenSpec.ofChange fnExactWitnessOfWrong)

/- THE SECOND FORM. 'bulk': how many values and letters a reading holds, each counted each time it is reached (what is shared counts as often as it is met; a slice's spare places count too). A statement '..UptoSaid' is the law's where the arguments, and the package variables that the reading takes, are together of bulk at most 1048576: NARROWER than '..Said'. Prove '..Said' where nothing that the law and all that it calls make is longer than what came in: it says more and counts as full. Else prove '..UptoSaid'. A law counts once. -/
mutual
def uptoBulk {H : Type} : DataW H → Nat
  | .lit (.string bytes) => bytes.length + 1
  | .lit _ => 1
  | .nil => 1
  | .ptr d => uptoBulk d + 1
  | .slice elems spare => uptoBulkAll elems + uptoBulkAll spare + 1
  | .agg parts => uptoBulkAll parts + 1
  | .iface _ d => uptoBulk d + 1
  | .map entries => uptoBulkEntries entries + 1
  | .held _ => 1
def uptoBulkAll {H : Type} : List (DataW H) → Nat
  | [] => 0
  | d :: r => uptoBulk d + uptoBulkAll r
def uptoBulkEntries {H : Type} : List (Lit × DataW H) → Nat
  | [] => 0
  | x :: r => uptoBulkEntry x + uptoBulkEntries r
def uptoBulkEntry {H : Type} : Lit × DataW H → Nat
  | (.string bytes, d) => bytes.length + uptoBulk d + 1
  | (_, d) => uptoBulk d + 1
 end
def uptoSmall : (H : Type) → List (DataW H) → Bool := fun _ ds => decide (uptoBulkAll ds ≤ 1048576)
def OpenSpec.upto (s : _root_.Go.ChangeSpec) : _root_.Go.OpenSpec := { _root_.Go.OpenSpec.ofChange s with cond := some uptoSmall }

/-- 'laws.FnExactNullityByRows', WHERE WHAT IT READS IS OF BULK AT MOST 1048576: true; the input reads as it did. -/
def fnExactNullityByRowsUptoRow : OpenClaim := { program := "ytfjkahkinkaheaa", sum := "ac187fe412afa745e8194373d2a0f35449bdf207dad59ff66aeb9fdfe83b2932", func := "loop.example/g01146/laws.FnExactNullityByRows", spec := "fnExactNullityByRows", unfollowed := true, recurses := true, apart := false, narrowed := true }
def FnExactNullityByRowsUptoSaid : Prop := fnExactNullityByRowsUptoRow.holds Try.pinned (OpenSpec.upto fnExactNullityByRowsSpec)

/-- 'laws.FnExactNullitiesByRows', WHERE WHAT IT READS IS OF BULK AT MOST 1048576: true; the input reads as it did. -/
def fnExactNullitiesByRowsUptoRow : OpenClaim := { program := "ytfjkahkinkaheaa", sum := "ac187fe412afa745e8194373d2a0f35449bdf207dad59ff66aeb9fdfe83b2932", func := "loop.example/g01146/laws.FnExactNullitiesByRows", spec := "fnExactNullitiesByRows", unfollowed := true, recurses := true, apart := false, narrowed := true }
def FnExactNullitiesByRowsUptoSaid : Prop := fnExactNullitiesByRowsUptoRow.holds Try.pinned (OpenSpec.upto fnExactNullitiesByRowsSpec)

/-- 'laws.FnExactCountSolvable', WHERE WHAT IT READS IS OF BULK AT MOST 1048576: true; the input reads as it did. -/
def fnExactCountSolvableUptoRow : OpenClaim := { program := "ytfjkahkinkaheaa", sum := "ac187fe412afa745e8194373d2a0f35449bdf207dad59ff66aeb9fdfe83b2932", func := "loop.example/g01146/laws.FnExactCountSolvable", spec := "fnExactCountSolvable", unfollowed := true, recurses := true, apart := false, narrowed := true }
def FnExactCountSolvableUptoSaid : Prop := fnExactCountSolvableUptoRow.holds Try.pinned (OpenSpec.upto fnExactCountSolvableSpec)

/-- 'laws.FnExactRankOf', WHERE WHAT IT READS IS OF BULK AT MOST 1048576: true; the input reads as it did. -/
def fnExactRankOfUptoRow : OpenClaim := { program := "ytfjkahkinkaheaa", sum := "ac187fe412afa745e8194373d2a0f35449bdf207dad59ff66aeb9fdfe83b2932", func := "loop.example/g01146/laws.FnExactRankOf", spec := "fnExactRankOf", unfollowed := true, recurses := true, apart := false, narrowed := true }
def FnExactRankOfUptoSaid : Prop := fnExactRankOfUptoRow.holds Try.pinned (OpenSpec.upto fnExactRankOfSpec)

/-- 'laws.FnExactNullityOf', WHERE WHAT IT READS IS OF BULK AT MOST 1048576: true; the input reads as it did. -/
def fnExactNullityOfUptoRow : OpenClaim := { program := "ytfjkahkinkaheaa", sum := "ac187fe412afa745e8194373d2a0f35449bdf207dad59ff66aeb9fdfe83b2932", func := "loop.example/g01146/laws.FnExactNullityOf", spec := "fnExactNullityOf", unfollowed := true, recurses := true, apart := false, narrowed := true }
def FnExactNullityOfUptoSaid : Prop := fnExactNullityOfUptoRow.holds Try.pinned (OpenSpec.upto fnExactNullityOfSpec)

/-- 'laws.FnExactCanSolve', WHERE WHAT IT READS IS OF BULK AT MOST 1048576: true; the input reads as it did. -/
def fnExactCanSolveUptoRow : OpenClaim := { program := "ytfjkahkinkaheaa", sum := "ac187fe412afa745e8194373d2a0f35449bdf207dad59ff66aeb9fdfe83b2932", func := "loop.example/g01146/laws.FnExactCanSolve", spec := "fnExactCanSolve", unfollowed := true, recurses := true, apart := false, narrowed := true }
def FnExactCanSolveUptoSaid : Prop := fnExactCanSolveUptoRow.holds Try.pinned (OpenSpec.upto fnExactCanSolveSpec)

/-- 'laws.FnExactImageBasis', WHERE WHAT IT READS IS OF BULK AT MOST 1048576: true; the input reads as it did. -/
def fnExactImageBasisUptoRow : OpenClaim := { program := "ytfjkahkinkaheaa", sum := "ac187fe412afa745e8194373d2a0f35449bdf207dad59ff66aeb9fdfe83b2932", func := "loop.example/g01146/laws.FnExactImageBasis", spec := "fnExactImageBasis", unfollowed := true, recurses := true, apart := false, narrowed := true }
def FnExactImageBasisUptoSaid : Prop := fnExactImageBasisUptoRow.holds Try.pinned (OpenSpec.upto fnExactImageBasisSpec)

/-- 'laws.FnExactQuietBasis', WHERE WHAT IT READS IS OF BULK AT MOST 1048576: true; the input reads as it did. -/
def fnExactQuietBasisUptoRow : OpenClaim := { program := "ytfjkahkinkaheaa", sum := "ac187fe412afa745e8194373d2a0f35449bdf207dad59ff66aeb9fdfe83b2932", func := "loop.example/g01146/laws.FnExactQuietBasis", spec := "fnExactQuietBasis", unfollowed := true, recurses := true, apart := false, narrowed := true }
def FnExactQuietBasisUptoSaid : Prop := fnExactQuietBasisUptoRow.holds Try.pinned (OpenSpec.upto fnExactQuietBasisSpec)

/-- 'laws.FnExactCountSolutions', WHERE WHAT IT READS IS OF BULK AT MOST 1048576: true; the input reads as it did. -/
def fnExactCountSolutionsUptoRow : OpenClaim := { program := "ytfjkahkinkaheaa", sum := "ac187fe412afa745e8194373d2a0f35449bdf207dad59ff66aeb9fdfe83b2932", func := "loop.example/g01146/laws.FnExactCountSolutions", spec := "fnExactCountSolutions", unfollowed := true, recurses := true, apart := false, narrowed := true }
def FnExactCountSolutionsUptoSaid : Prop := fnExactCountSolutionsUptoRow.holds Try.pinned (OpenSpec.upto fnExactCountSolutionsSpec)

/-- 'laws.FnExactSolveBoard', WHERE WHAT IT READS IS OF BULK AT MOST 1048576: true; the input reads as it did. -/
def fnExactSolveBoardUptoRow : OpenClaim := { program := "ytfjkahkinkaheaa", sum := "ac187fe412afa745e8194373d2a0f35449bdf207dad59ff66aeb9fdfe83b2932", func := "loop.example/g01146/laws.FnExactSolveBoard", spec := "fnExactSolveBoard", unfollowed := true, recurses := true, apart := false, narrowed := true }
def FnExactSolveBoardUptoSaid : Prop := fnExactSolveBoardUptoRow.holds Try.pinned (OpenSpec.upto fnExactSolveBoardSpec)

/-- 'laws.FnExactAllOn', WHERE WHAT IT READS IS OF BULK AT MOST 1048576: true; the input reads as it did. -/
def fnExactAllOnUptoRow : OpenClaim := { program := "ytfjkahkinkaheaa", sum := "ac187fe412afa745e8194373d2a0f35449bdf207dad59ff66aeb9fdfe83b2932", func := "loop.example/g01146/laws.FnExactAllOn", spec := "fnExactAllOn", unfollowed := true, recurses := true, apart := false, narrowed := true }
def FnExactAllOnUptoSaid : Prop := fnExactAllOnUptoRow.holds Try.pinned (OpenSpec.upto fnExactAllOnSpec)

/-- 'laws.FnExactWitnessOf', WHERE WHAT IT READS IS OF BULK AT MOST 1048576: true; the input reads as it did. -/
def fnExactWitnessOfUptoRow : OpenClaim := { program := "ytfjkahkinkaheaa", sum := "ac187fe412afa745e8194373d2a0f35449bdf207dad59ff66aeb9fdfe83b2932", func := "loop.example/g01146/laws.FnExactWitnessOf", spec := "fnExactWitnessOf", unfollowed := true, recurses := true, apart := false, narrowed := true }
def FnExactWitnessOfUptoSaid : Prop := fnExactWitnessOfUptoRow.holds Try.pinned (OpenSpec.upto fnExactWitnessOfSpec)

end Rows
end Go.Proofs.Ytfjkahkinkaheaa
