/-
  No cell of these rows narrows 'for every input' (looked for: loops, veiled, ifaces, maps, wideKeys, modest, calm, conditions, laid).
  DERIVED. THE GIVEN ROWS OF THIS SEAT. 7 by the template 'for every input the law returns true; each argument reads behind the call as it read before'; 0 by the template 'total and deterministic' (their statements: YthjbccbaobkobaaTotals.lean).
  GIVEN WITH THE SEED: the statements are not yours to turn. If you find one false, say at which input.
  Laid BY PROGRAM, IN A SANDBOX (cutbox-rows.mjs): the forced cells as the released guide's own fill.sh prints them over the translation bdd0383fc04f53ad… (all of the seat's roots in one cut). By AI agents, Wed Nov 11 2026. No macro, syntax, notation, axiom, sorry.
-/
import Derived.Test.YthjbccbaobkobaaChecked
import GoSem.Claim
import GoSem.ClaimJoined
import GoSem.ClaimMapViews
import Derived.JoinedTies
import Derived.KernelRfl
namespace Go.Proofs.Ythjbccbaobkobaa
/- THE CELL 'sum', in the pinned program and in every row, IS THE sha256 OF THE DUMP (.gsa) THAT YthjbccbaobkobaaProg.lean LOADS. Nothing in Lean hashes anything: it is a label: what it is worth is what the hold of that sum in a sandbox is worth. -/
noncomputable def Try.pinned : Pinned := { name := "ythjbccbaobkobaa", sum := "bdd0383fc04f53adf3b568832394558cd279811a15571c4c4bd68f636238e690", checked := Try.checked }
namespace Rows
def none {H : Type} : Left H := { results := [], args := [] }

/-- 'laws.FnExactLeastSolution': WHATEVER THE INPUT: true; the input reads as it did. -/
def fnExactLeastSolutionSpec : ChangeSpec := { name := "fnExactLeastSolution", fn := fun _ => fun
  | [d1, d2] => { results := [.lit (.bool true)], args := [d1, d2] }
  | _ => none }
def fnExactLeastSolutionRow : OpenClaim := { program := "ythjbccbaobkobaa", sum := "bdd0383fc04f53adf3b568832394558cd279811a15571c4c4bd68f636238e690", func := "loop.example/g01146/laws.FnExactLeastSolution", spec := "fnExactLeastSolution", unfollowed := true, recurses := true, apart := false }
def FnExactLeastSolutionSaid : Prop := fnExactLeastSolutionRow.holds Try.pinned (OpenSpec.ofChange fnExactLeastSolutionSpec)

/-- ITS FALSE NEIGHBOUR: 'it returns false'. Refute it at one input. -/
def fnExactLeastSolutionWrong : ChangeSpec := { name := "fnExactLeastSolution", fn := fun _ => fun
  | [d1, d2] => { results := [.lit (.bool false)], args := [d1, d2] }
  | _ => none }
def FnExactLeastSolutionWrongFalsely : Prop := fnExactLeastSolutionRow.holds Try.pinned (OpenSpec.ofChange fnExactLeastSolutionWrong)

/-- 'laws.FnExactQuietRows': WHATEVER THE INPUT: true; the input reads as it did. -/
def fnExactQuietRowsSpec : ChangeSpec := { name := "fnExactQuietRows", fn := fun _ => fun
  | [d1, d2, d3, d4] => { results := [.lit (.bool true)], args := [d1, d2, d3, d4] }
  | _ => none }
def fnExactQuietRowsRow : OpenClaim := { program := "ythjbccbaobkobaa", sum := "bdd0383fc04f53adf3b568832394558cd279811a15571c4c4bd68f636238e690", func := "loop.example/g01146/laws.FnExactQuietRows", spec := "fnExactQuietRows", unfollowed := true, recurses := true, apart := false }
def FnExactQuietRowsSaid : Prop := fnExactQuietRowsRow.holds Try.pinned (OpenSpec.ofChange fnExactQuietRowsSpec)

/-- ITS FALSE NEIGHBOUR: 'it returns false'. Refute it at one input. -/
def fnExactQuietRowsWrong : ChangeSpec := { name := "fnExactQuietRows", fn := fun _ => fun
  | [d1, d2, d3, d4] => { results := [.lit (.bool false)], args := [d1, d2, d3, d4] }
  | _ => none }
def FnExactQuietRowsWrongFalsely : Prop := fnExactQuietRowsRow.holds Try.pinned (OpenSpec.ofChange fnExactQuietRowsWrong)

/-- 'laws.FnExactSolutionsBySize': WHATEVER THE INPUT: true; the input reads as it did. -/
def fnExactSolutionsBySizeSpec : ChangeSpec := { name := "fnExactSolutionsBySize", fn := fun _ => fun
  | [d1, d2] => { results := [.lit (.bool true)], args := [d1, d2] }
  | _ => none }
def fnExactSolutionsBySizeRow : OpenClaim := { program := "ythjbccbaobkobaa", sum := "bdd0383fc04f53adf3b568832394558cd279811a15571c4c4bd68f636238e690", func := "loop.example/g01146/laws.FnExactSolutionsBySize", spec := "fnExactSolutionsBySize", unfollowed := true, recurses := true, apart := false }
def FnExactSolutionsBySizeSaid : Prop := fnExactSolutionsBySizeRow.holds Try.pinned (OpenSpec.ofChange fnExactSolutionsBySizeSpec)

/-- ITS FALSE NEIGHBOUR: 'it returns false'. Refute it at one input. -/
def fnExactSolutionsBySizeWrong : ChangeSpec := { name := "fnExactSolutionsBySize", fn := fun _ => fun
  | [d1, d2] => { results := [.lit (.bool false)], args := [d1, d2] }
  | _ => none }
def FnExactSolutionsBySizeWrongFalsely : Prop := fnExactSolutionsBySizeRow.holds Try.pinned (OpenSpec.ofChange fnExactSolutionsBySizeWrong)

/-- 'laws.FnExactGraphOf': WHATEVER THE INPUT: true; the input reads as it did. -/
def fnExactGraphOfSpec : ChangeSpec := { name := "fnExactGraphOf", fn := fun _ => fun
  | [d1, d2, d3] => { results := [.lit (.bool true)], args := [d1, d2, d3] }
  | _ => none }
def fnExactGraphOfRow : OpenClaim := { program := "ythjbccbaobkobaa", sum := "bdd0383fc04f53adf3b568832394558cd279811a15571c4c4bd68f636238e690", func := "loop.example/g01146/laws.FnExactGraphOf", spec := "fnExactGraphOf", apart := false }
def FnExactGraphOfSaid : Prop := fnExactGraphOfRow.holds Try.pinned (OpenSpec.ofChange fnExactGraphOfSpec)

/-- ITS FALSE NEIGHBOUR: 'it returns false'. Refute it at one input. -/
def fnExactGraphOfWrong : ChangeSpec := { name := "fnExactGraphOf", fn := fun _ => fun
  | [d1, d2, d3] => { results := [.lit (.bool false)], args := [d1, d2, d3] }
  | _ => none }
def FnExactGraphOfWrongFalsely : Prop := fnExactGraphOfRow.holds Try.pinned (OpenSpec.ofChange fnExactGraphOfWrong)

/-- 'laws.FnExactEdgesOf': WHATEVER THE INPUT: true; the input reads as it did. -/
def fnExactEdgesOfSpec : ChangeSpec := { name := "fnExactEdgesOf", fn := fun _ => fun
  | [d] => { results := [.lit (.bool true)], args := [d] }
  | _ => none }
def fnExactEdgesOfRow : OpenClaim := { program := "ythjbccbaobkobaa", sum := "bdd0383fc04f53adf3b568832394558cd279811a15571c4c4bd68f636238e690", func := "loop.example/g01146/laws.FnExactEdgesOf", spec := "fnExactEdgesOf", apart := false }
def FnExactEdgesOfSaid : Prop := fnExactEdgesOfRow.holds Try.pinned (OpenSpec.ofChange fnExactEdgesOfSpec)

/-- ITS FALSE NEIGHBOUR: 'it returns false'. Refute it at one input. -/
def fnExactEdgesOfWrong : ChangeSpec := { name := "fnExactEdgesOf", fn := fun _ => fun
  | [d] => { results := [.lit (.bool false)], args := [d] }
  | _ => none }
def FnExactEdgesOfWrongFalsely : Prop := fnExactEdgesOfRow.holds Try.pinned (OpenSpec.ofChange fnExactEdgesOfWrong)

/-- 'laws.FnExactFarthestBoard': WHATEVER THE INPUT: true; the input reads as it did. -/
def fnExactFarthestBoardSpec : ChangeSpec := { name := "fnExactFarthestBoard", fn := fun _ => fun
  | [d] => { results := [.lit (.bool true)], args := [d] }
  | _ => none }
def fnExactFarthestBoardRow : OpenClaim := { program := "ythjbccbaobkobaa", sum := "bdd0383fc04f53adf3b568832394558cd279811a15571c4c4bd68f636238e690", func := "loop.example/g01146/laws.FnExactFarthestBoard", spec := "fnExactFarthestBoard", apart := false }
def FnExactFarthestBoardSaid : Prop := fnExactFarthestBoardRow.holds Try.pinned (OpenSpec.ofChange fnExactFarthestBoardSpec)

/-- ITS FALSE NEIGHBOUR: 'it returns false'. Refute it at one input. -/
def fnExactFarthestBoardWrong : ChangeSpec := { name := "fnExactFarthestBoard", fn := fun _ => fun
  | [d] => { results := [.lit (.bool false)], args := [d] }
  | _ => none }
def FnExactFarthestBoardWrongFalsely : Prop := fnExactFarthestBoardRow.holds Try.pinned (OpenSpec.ofChange fnExactFarthestBoardWrong)

/-- 'laws.FnExactQuietPatterns': WHATEVER THE INPUT: true; the input reads as it did. -/
def fnExactQuietPatternsSpec : ChangeSpec := { name := "fnExactQuietPatterns", fn := fun _ => fun
  | [d] => { results := [.lit (.bool true)], args := [d] }
  | _ => none }
def fnExactQuietPatternsRow : OpenClaim := { program := "ythjbccbaobkobaa", sum := "bdd0383fc04f53adf3b568832394558cd279811a15571c4c4bd68f636238e690", func := "loop.example/g01146/laws.FnExactQuietPatterns", spec := "fnExactQuietPatterns", unfollowed := true, recurses := true, apart := false }
def FnExactQuietPatternsSaid : Prop := fnExactQuietPatternsRow.holds Try.pinned (OpenSpec.ofChange fnExactQuietPatternsSpec)

/-- ITS FALSE NEIGHBOUR: 'it returns false'. Refute it at one input. -/
def fnExactQuietPatternsWrong : ChangeSpec := { name := "fnExactQuietPatterns", fn := fun _ => fun
  | [d] => { results := [.lit (.bool false)], args := [d] }
  | _ => none }
def FnExactQuietPatternsWrongFalsely : Prop := fnExactQuietPatternsRow.holds Try.pinned (OpenSpec.ofChange fnExactQuietPatternsWrong)

/- THE SECOND FORM. 'bulk': how many values and letters a reading holds, each counted each time it is reached (what is shared counts as often as it is met; a slice's spare places count too). A statement '..UptoSaid' is the law's where the arguments, and the package variables that the reading takes, are together of bulk at most 1048576: NARROWER than '..Said'. Prove '..Said' where nothing that the law and all that it calls make is longer than what came in: it says more and counts as full. Else prove '..UptoSaid'. A law counts once. -/
mutual
def uptoBulk {H : Type} : DataW H → Nat
  | .lit (.string bytes) => bytes.length + 1
  | .lit _ => 1
  | .nil => 1
  | .ptr d => uptoBulk d + 1
  | .slice elems spare => uptoBulkAll elems + uptoBulkAll spare + 1
  | .agg parts => uptoBulkAll parts + 1
  | .iface _ d => uptoBulk d + 1
  | .map entries => uptoBulkEntries entries + 1
  | .held _ => 1
def uptoBulkAll {H : Type} : List (DataW H) → Nat
  | [] => 0
  | d :: r => uptoBulk d + uptoBulkAll r
def uptoBulkEntries {H : Type} : List (Lit × DataW H) → Nat
  | [] => 0
  | x :: r => uptoBulkEntry x + uptoBulkEntries r
def uptoBulkEntry {H : Type} : Lit × DataW H → Nat
  | (.string bytes, d) => bytes.length + uptoBulk d + 1
  | (_, d) => uptoBulk d + 1
 end
def uptoSmall : (H : Type) → List (DataW H) → Bool := fun _ ds => decide (uptoBulkAll ds ≤ 1048576)
def OpenSpec.upto (s : _root_.Go.ChangeSpec) : _root_.Go.OpenSpec := { _root_.Go.OpenSpec.ofChange s with cond := some uptoSmall }

/-- 'laws.FnExactLeastSolution', WHERE WHAT IT READS IS OF BULK AT MOST 1048576: true; the input reads as it did. -/
def fnExactLeastSolutionUptoRow : OpenClaim := { program := "ythjbccbaobkobaa", sum := "bdd0383fc04f53adf3b568832394558cd279811a15571c4c4bd68f636238e690", func := "loop.example/g01146/laws.FnExactLeastSolution", spec := "fnExactLeastSolution", unfollowed := true, recurses := true, apart := false, narrowed := true }
def FnExactLeastSolutionUptoSaid : Prop := fnExactLeastSolutionUptoRow.holds Try.pinned (OpenSpec.upto fnExactLeastSolutionSpec)

/-- 'laws.FnExactQuietRows', WHERE WHAT IT READS IS OF BULK AT MOST 1048576: true; the input reads as it did. -/
def fnExactQuietRowsUptoRow : OpenClaim := { program := "ythjbccbaobkobaa", sum := "bdd0383fc04f53adf3b568832394558cd279811a15571c4c4bd68f636238e690", func := "loop.example/g01146/laws.FnExactQuietRows", spec := "fnExactQuietRows", unfollowed := true, recurses := true, apart := false, narrowed := true }
def FnExactQuietRowsUptoSaid : Prop := fnExactQuietRowsUptoRow.holds Try.pinned (OpenSpec.upto fnExactQuietRowsSpec)

/-- 'laws.FnExactSolutionsBySize', WHERE WHAT IT READS IS OF BULK AT MOST 1048576: true; the input reads as it did. -/
def fnExactSolutionsBySizeUptoRow : OpenClaim := { program := "ythjbccbaobkobaa", sum := "bdd0383fc04f53adf3b568832394558cd279811a15571c4c4bd68f636238e690", func := "loop.example/g01146/laws.FnExactSolutionsBySize", spec := "fnExactSolutionsBySize", unfollowed := true, recurses := true, apart := false, narrowed := true }
def FnExactSolutionsBySizeUptoSaid : Prop := fnExactSolutionsBySizeUptoRow.holds Try.pinned (OpenSpec.upto fnExactSolutionsBySizeSpec)

/-- 'laws.FnExactGraphOf', WHERE WHAT IT READS IS OF BULK AT MOST 1048576: true; the input reads as it did. -/
def fnExactGraphOfUptoRow : OpenClaim := { program := "ythjbccbaobkobaa", sum := "bdd0383fc04f53adf3b568832394558cd279811a15571c4c4bd68f636238e690", func := "loop.example/g01146/laws.FnExactGraphOf", spec := "fnExactGraphOf", apart := false, narrowed := true }
def FnExactGraphOfUptoSaid : Prop := fnExactGraphOfUptoRow.holds Try.pinned (OpenSpec.upto fnExactGraphOfSpec)

/-- 'laws.FnExactEdgesOf', WHERE WHAT IT READS IS OF BULK AT MOST 1048576: true; the input reads as it did. -/
def fnExactEdgesOfUptoRow : OpenClaim := { program := "ythjbccbaobkobaa", sum := "bdd0383fc04f53adf3b568832394558cd279811a15571c4c4bd68f636238e690", func := "loop.example/g01146/laws.FnExactEdgesOf", spec := "fnExactEdgesOf", apart := false, narrowed := true }
def FnExactEdgesOfUptoSaid : Prop := fnExactEdgesOfUptoRow.holds Try.pinned (OpenSpec.upto fnExactEdgesOfSpec)

/-- 'laws.FnExactFarthestBoard', WHERE WHAT IT READS IS OF BULK AT MOST 1048576: true; the input reads as it did. -/
def fnExactFarthestBoardUptoRow : OpenClaim := { program := "ythjbccbaobkobaa", sum := "bdd0383fc04f53adf3b568832394558cd279811a15571c4c4bd68f636238e690", func := "loop.example/g01146/laws.FnExactFarthestBoard", spec := "fnExactFarthestBoard", apart := false, narrowed := true }
def FnExactFarthestBoardUptoSaid : Prop := fnExactFarthestBoardUptoRow.holds Try.pinned (OpenSpec.upto fnExactFarthestBoardSpec)

/-- 'laws.FnExactQuietPatterns', WHERE WHAT IT READS IS OF BULK AT MOST 1048576: true; the input reads as it did. -/
def fnExactQuietPatternsUptoRow : OpenClaim := { program := "ythjbccbaobkobaa", sum := "bdd0383fc04f53adf3b568832394558cd279811a15571c4c4bd68f636238e690", func := "loop.example/g01146/laws.FnExactQuietPatterns", spec := "fnExactQuietPatterns", unfollowed := true, recurses := true, apart := false, narrowed := true }
def FnExactQuietPatternsUptoSaid : Prop := fnExactQuietPatternsUptoRow.holds Try.pinned (OpenSpec.upto fnExactQuietPatternsSpec)

end Rows
end Go.Proofs.Ythjbccbaobkobaa
