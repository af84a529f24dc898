/-
  No cell of these rows narrows 'for every input' (looked for: loops, veiled, ifaces, maps, wideKeys, modest, calm, conditions, laid).
  DERIVED. THE GIVEN ROWS OF THIS SEAT. 12 by the template 'for every input the law returns true; each argument reads behind the call as it read before'; 0 by the template 'total and deterministic' (their statements: YtadjapdaepkfhaaTotals.lean).
  GIVEN WITH THE SEED: the statements are not yours to turn. If you find one false, say at which input.
  Laid BY PROGRAM, IN A SANDBOX (cutbox-rows.mjs): the forced cells as the released guide's own fill.sh prints them over the translation d73b3502b6f57768… (all of the seat's roots in one cut). By AI agents, Wed Nov 11 2026. No macro, syntax, notation, axiom, sorry.
-/
import Derived.Test.YtadjapdaepkfhaaChecked
import GoSem.Claim
import GoSem.ClaimJoined
import GoSem.ClaimMapViews
import Derived.JoinedTies
import Derived.KernelRfl
namespace Go.Proofs.Ytadjapdaepkfhaa
/- THE CELL 'sum', in the pinned program and in every row, IS THE sha256 OF THE DUMP (.gsa) THAT YtadjapdaepkfhaaProg.lean LOADS. Nothing in Lean hashes anything: it is a label: what it is worth is what the hold of that sum in a sandbox is worth. -/
noncomputable def Try.pinned : Pinned := { name := "ytadjapdaepkfhaa", sum := "d73b3502b6f57768bbc4493f55f1c0333ddfecf21f1a2634e241db6c47ab8947", checked := Try.checked }
namespace Rows
def none {H : Type} : Left H := { results := [], args := [] }

/-- 'laws.FnExactConstants': WHATEVER THE INPUT: true; the input reads as it did. -/
def fnExactConstantsSpec : ChangeSpec := { name := "fnExactConstants", fn := fun _ => fun
  | [] => { results := [.lit (.bool true)], args := [] }
  | _ => none }
def fnExactConstantsRow : OpenClaim := { program := "ytadjapdaepkfhaa", sum := "d73b3502b6f57768bbc4493f55f1c0333ddfecf21f1a2634e241db6c47ab8947", func := "loop.example/g01146/laws.FnExactConstants", spec := "fnExactConstants", apart := false }
def FnExactConstantsSaid : Prop := fnExactConstantsRow.holds Try.pinned (OpenSpec.ofChange fnExactConstantsSpec)

/-- ITS FALSE NEIGHBOUR: 'it returns false'. Refute it at one input. -/
def fnExactConstantsWrong : ChangeSpec := { name := "fnExactConstants", fn := fun _ => fun
  | [] => { results := [.lit (.bool false)], args := [] }
  | _ => none }
def FnExactConstantsWrongFalsely : Prop := fnExactConstantsRow.holds Try.pinned (OpenSpec.ofChange fnExactConstantsWrong)

/-- 'laws.FnExactFibonacciPoly': WHATEVER THE INPUT: true; the input reads as it did. -/
def fnExactFibonacciPolySpec : ChangeSpec := { name := "fnExactFibonacciPoly", fn := fun _ => fun
  | [d] => { results := [.lit (.bool true)], args := [d] }
  | _ => none }
def fnExactFibonacciPolyRow : OpenClaim := { program := "ytadjapdaepkfhaa", sum := "d73b3502b6f57768bbc4493f55f1c0333ddfecf21f1a2634e241db6c47ab8947", func := "loop.example/g01146/laws.FnExactFibonacciPoly", spec := "fnExactFibonacciPoly", apart := false }
def FnExactFibonacciPolySaid : Prop := fnExactFibonacciPolyRow.holds Try.pinned (OpenSpec.ofChange fnExactFibonacciPolySpec)

/-- ITS FALSE NEIGHBOUR: 'it returns false'. Refute it at one input. -/
def fnExactFibonacciPolyWrong : ChangeSpec := { name := "fnExactFibonacciPoly", fn := fun _ => fun
  | [d] => { results := [.lit (.bool false)], args := [d] }
  | _ => none }
def FnExactFibonacciPolyWrongFalsely : Prop := fnExactFibonacciPolyRow.holds Try.pinned (OpenSpec.ofChange fnExactFibonacciPolyWrong)

/-- 'laws.FnExactRowToggles': WHATEVER THE INPUT: true; the input reads as it did. -/
def fnExactRowTogglesSpec : ChangeSpec := { name := "fnExactRowToggles", fn := fun _ => fun
  | [d1, d2, d3] => { results := [.lit (.bool true)], args := [d1, d2, d3] }
  | _ => none }
def fnExactRowTogglesRow : OpenClaim := { program := "ytadjapdaepkfhaa", sum := "d73b3502b6f57768bbc4493f55f1c0333ddfecf21f1a2634e241db6c47ab8947", func := "loop.example/g01146/laws.FnExactRowToggles", spec := "fnExactRowToggles", unfollowed := true, recurses := true, apart := false }
def FnExactRowTogglesSaid : Prop := fnExactRowTogglesRow.holds Try.pinned (OpenSpec.ofChange fnExactRowTogglesSpec)

/-- ITS FALSE NEIGHBOUR: 'it returns false'. Refute it at one input. -/
def fnExactRowTogglesWrong : ChangeSpec := { name := "fnExactRowToggles", fn := fun _ => fun
  | [d1, d2, d3] => { results := [.lit (.bool false)], args := [d1, d2, d3] }
  | _ => none }
def FnExactRowTogglesWrongFalsely : Prop := fnExactRowTogglesRow.holds Try.pinned (OpenSpec.ofChange fnExactRowTogglesWrong)

/-- 'laws.FnExactDerivativeOf': WHATEVER THE INPUT: true; the input reads as it did. -/
def fnExactDerivativeOfSpec : ChangeSpec := { name := "fnExactDerivativeOf", fn := fun _ => fun
  | [d] => { results := [.lit (.bool true)], args := [d] }
  | _ => none }
def fnExactDerivativeOfRow : OpenClaim := { program := "ytadjapdaepkfhaa", sum := "d73b3502b6f57768bbc4493f55f1c0333ddfecf21f1a2634e241db6c47ab8947", func := "loop.example/g01146/laws.FnExactDerivativeOf", spec := "fnExactDerivativeOf", unfollowed := true, recurses := true, apart := false }
def FnExactDerivativeOfSaid : Prop := fnExactDerivativeOfRow.holds Try.pinned (OpenSpec.ofChange fnExactDerivativeOfSpec)

/-- ITS FALSE NEIGHBOUR: 'it returns false'. Refute it at one input. -/
def fnExactDerivativeOfWrong : ChangeSpec := { name := "fnExactDerivativeOf", fn := fun _ => fun
  | [d] => { results := [.lit (.bool false)], args := [d] }
  | _ => none }
def FnExactDerivativeOfWrongFalsely : Prop := fnExactDerivativeOfRow.holds Try.pinned (OpenSpec.ofChange fnExactDerivativeOfWrong)

/-- 'laws.FnExactRowPeriod': WHATEVER THE INPUT: true; the input reads as it did. -/
def fnExactRowPeriodSpec : ChangeSpec := { name := "fnExactRowPeriod", fn := fun _ => fun
  | [d1, d2, d3] => { results := [.lit (.bool true)], args := [d1, d2, d3] }
  | _ => none }
def fnExactRowPeriodRow : OpenClaim := { program := "ytadjapdaepkfhaa", sum := "d73b3502b6f57768bbc4493f55f1c0333ddfecf21f1a2634e241db6c47ab8947", func := "loop.example/g01146/laws.FnExactRowPeriod", spec := "fnExactRowPeriod", unfollowed := true, recurses := true, apart := false }
def FnExactRowPeriodSaid : Prop := fnExactRowPeriodRow.holds Try.pinned (OpenSpec.ofChange fnExactRowPeriodSpec)

/-- ITS FALSE NEIGHBOUR: 'it returns false'. Refute it at one input. -/
def fnExactRowPeriodWrong : ChangeSpec := { name := "fnExactRowPeriod", fn := fun _ => fun
  | [d1, d2, d3] => { results := [.lit (.bool false)], args := [d1, d2, d3] }
  | _ => none }
def FnExactRowPeriodWrongFalsely : Prop := fnExactRowPeriodRow.holds Try.pinned (OpenSpec.ofChange fnExactRowPeriodWrong)

/-- 'laws.FnExactRowBehind': WHATEVER THE INPUT: true; the input reads as it did. -/
def fnExactRowBehindSpec : ChangeSpec := { name := "fnExactRowBehind", fn := fun _ => fun
  | [d1, d2, d3, d4] => { results := [.lit (.bool true)], args := [d1, d2, d3, d4] }
  | _ => none }
def fnExactRowBehindRow : OpenClaim := { program := "ytadjapdaepkfhaa", sum := "d73b3502b6f57768bbc4493f55f1c0333ddfecf21f1a2634e241db6c47ab8947", func := "loop.example/g01146/laws.FnExactRowBehind", spec := "fnExactRowBehind", unfollowed := true, recurses := true, apart := false }
def FnExactRowBehindSaid : Prop := fnExactRowBehindRow.holds Try.pinned (OpenSpec.ofChange fnExactRowBehindSpec)

/-- ITS FALSE NEIGHBOUR: 'it returns false'. Refute it at one input. -/
def fnExactRowBehindWrong : ChangeSpec := { name := "fnExactRowBehind", fn := fun _ => fun
  | [d1, d2, d3, d4] => { results := [.lit (.bool false)], args := [d1, d2, d3, d4] }
  | _ => none }
def FnExactRowBehindWrongFalsely : Prop := fnExactRowBehindRow.holds Try.pinned (OpenSpec.ofChange fnExactRowBehindWrong)

/-- 'laws.FnExactChaseLeft': WHATEVER THE INPUT: true; the input reads as it did. -/
def fnExactChaseLeftSpec : ChangeSpec := { name := "fnExactChaseLeft", fn := fun _ => fun
  | [d1, d2, d3, d4, d5] => { results := [.lit (.bool true)], args := [d1, d2, d3, d4, d5] }
  | _ => none }
def fnExactChaseLeftRow : OpenClaim := { program := "ytadjapdaepkfhaa", sum := "d73b3502b6f57768bbc4493f55f1c0333ddfecf21f1a2634e241db6c47ab8947", func := "loop.example/g01146/laws.FnExactChaseLeft", spec := "fnExactChaseLeft", apart := false }
def FnExactChaseLeftSaid : Prop := fnExactChaseLeftRow.holds Try.pinned (OpenSpec.ofChange fnExactChaseLeftSpec)

/-- ITS FALSE NEIGHBOUR: 'it returns false'. Refute it at one input. -/
def fnExactChaseLeftWrong : ChangeSpec := { name := "fnExactChaseLeft", fn := fun _ => fun
  | [d1, d2, d3, d4, d5] => { results := [.lit (.bool false)], args := [d1, d2, d3, d4, d5] }
  | _ => none }
def FnExactChaseLeftWrongFalsely : Prop := fnExactChaseLeftRow.holds Try.pinned (OpenSpec.ofChange fnExactChaseLeftWrong)

/-- 'laws.FnExactChasePresses': WHATEVER THE INPUT: true; the input reads as it did. -/
def fnExactChasePressesSpec : ChangeSpec := { name := "fnExactChasePresses", fn := fun _ => fun
  | [d1, d2, d3, d4, d5] => { results := [.lit (.bool true)], args := [d1, d2, d3, d4, d5] }
  | _ => none }
def fnExactChasePressesRow : OpenClaim := { program := "ytadjapdaepkfhaa", sum := "d73b3502b6f57768bbc4493f55f1c0333ddfecf21f1a2634e241db6c47ab8947", func := "loop.example/g01146/laws.FnExactChasePresses", spec := "fnExactChasePresses", apart := false }
def FnExactChasePressesSaid : Prop := fnExactChasePressesRow.holds Try.pinned (OpenSpec.ofChange fnExactChasePressesSpec)

/-- ITS FALSE NEIGHBOUR: 'it returns false'. Refute it at one input. -/
def fnExactChasePressesWrong : ChangeSpec := { name := "fnExactChasePresses", fn := fun _ => fun
  | [d1, d2, d3, d4, d5] => { results := [.lit (.bool false)], args := [d1, d2, d3, d4, d5] }
  | _ => none }
def FnExactChasePressesWrongFalsely : Prop := fnExactChasePressesRow.holds Try.pinned (OpenSpec.ofChange fnExactChasePressesWrong)

/-- 'laws.FnExactDegreeOf': WHATEVER THE INPUT: true; the input reads as it did. -/
def fnExactDegreeOfSpec : ChangeSpec := { name := "fnExactDegreeOf", fn := fun _ => fun
  | [d] => { results := [.lit (.bool true)], args := [d] }
  | _ => none }
def fnExactDegreeOfRow : OpenClaim := { program := "ytadjapdaepkfhaa", sum := "d73b3502b6f57768bbc4493f55f1c0333ddfecf21f1a2634e241db6c47ab8947", func := "loop.example/g01146/laws.FnExactDegreeOf", spec := "fnExactDegreeOf", unfollowed := true, recurses := true, apart := false }
def FnExactDegreeOfSaid : Prop := fnExactDegreeOfRow.holds Try.pinned (OpenSpec.ofChange fnExactDegreeOfSpec)

/-- ITS FALSE NEIGHBOUR: 'it returns false'. Refute it at one input. -/
def fnExactDegreeOfWrong : ChangeSpec := { name := "fnExactDegreeOf", fn := fun _ => fun
  | [d] => { results := [.lit (.bool false)], args := [d] }
  | _ => none }
def FnExactDegreeOfWrongFalsely : Prop := fnExactDegreeOfRow.holds Try.pinned (OpenSpec.ofChange fnExactDegreeOfWrong)

/-- 'laws.FnExactReversedPoly': WHATEVER THE INPUT: true; the input reads as it did. -/
def fnExactReversedPolySpec : ChangeSpec := { name := "fnExactReversedPoly", fn := fun _ => fun
  | [d] => { results := [.lit (.bool true)], args := [d] }
  | _ => none }
def fnExactReversedPolyRow : OpenClaim := { program := "ytadjapdaepkfhaa", sum := "d73b3502b6f57768bbc4493f55f1c0333ddfecf21f1a2634e241db6c47ab8947", func := "loop.example/g01146/laws.FnExactReversedPoly", spec := "fnExactReversedPoly", unfollowed := true, recurses := true, apart := false }
def FnExactReversedPolySaid : Prop := fnExactReversedPolyRow.holds Try.pinned (OpenSpec.ofChange fnExactReversedPolySpec)

/-- ITS FALSE NEIGHBOUR: 'it returns false'. Refute it at one input. -/
def fnExactReversedPolyWrong : ChangeSpec := { name := "fnExactReversedPoly", fn := fun _ => fun
  | [d] => { results := [.lit (.bool false)], args := [d] }
  | _ => none }
def FnExactReversedPolyWrongFalsely : Prop := fnExactReversedPolyRow.holds Try.pinned (OpenSpec.ofChange fnExactReversedPolyWrong)

/-- 'laws.FnExactDividePoly': WHATEVER THE INPUT: true; the input reads as it did. -/
def fnExactDividePolySpec : ChangeSpec := { name := "fnExactDividePoly", fn := fun _ => fun
  | [d1, d2] => { results := [.lit (.bool true)], args := [d1, d2] }
  | _ => none }
def fnExactDividePolyRow : OpenClaim := { program := "ytadjapdaepkfhaa", sum := "d73b3502b6f57768bbc4493f55f1c0333ddfecf21f1a2634e241db6c47ab8947", func := "loop.example/g01146/laws.FnExactDividePoly", spec := "fnExactDividePoly", unfollowed := true, recurses := true, apart := false }
def FnExactDividePolySaid : Prop := fnExactDividePolyRow.holds Try.pinned (OpenSpec.ofChange fnExactDividePolySpec)

/-- ITS FALSE NEIGHBOUR: 'it returns false'. Refute it at one input. -/
def fnExactDividePolyWrong : ChangeSpec := { name := "fnExactDividePoly", fn := fun _ => fun
  | [d1, d2] => { results := [.lit (.bool false)], args := [d1, d2] }
  | _ => none }
def FnExactDividePolyWrongFalsely : Prop := fnExactDividePolyRow.holds Try.pinned (OpenSpec.ofChange fnExactDividePolyWrong)

/-- 'laws.FnExactQuietRows': WHATEVER THE INPUT: true; the input reads as it did. -/
def fnExactQuietRowsSpec : ChangeSpec := { name := "fnExactQuietRows", fn := fun _ => fun
  | [d1, d2, d3, d4] => { results := [.lit (.bool true)], args := [d1, d2, d3, d4] }
  | _ => none }
def fnExactQuietRowsRow : OpenClaim := { program := "ytadjapdaepkfhaa", sum := "d73b3502b6f57768bbc4493f55f1c0333ddfecf21f1a2634e241db6c47ab8947", func := "loop.example/g01146/laws.FnExactQuietRows", spec := "fnExactQuietRows", unfollowed := true, recurses := true, apart := false }
def FnExactQuietRowsSaid : Prop := fnExactQuietRowsRow.holds Try.pinned (OpenSpec.ofChange fnExactQuietRowsSpec)

/-- ITS FALSE NEIGHBOUR: 'it returns false'. Refute it at one input. -/
def fnExactQuietRowsWrong : ChangeSpec := { name := "fnExactQuietRows", fn := fun _ => fun
  | [d1, d2, d3, d4] => { results := [.lit (.bool false)], args := [d1, d2, d3, d4] }
  | _ => none }
def FnExactQuietRowsWrongFalsely : Prop := fnExactQuietRowsRow.holds Try.pinned (OpenSpec.ofChange fnExactQuietRowsWrong)

/- THE SECOND FORM. 'bulk': how many values and letters a reading holds, each counted each time it is reached (what is shared counts as often as it is met; a slice's spare places count too). A statement '..UptoSaid' is the law's where the arguments, and the package variables that the reading takes, are together of bulk at most 1048576: NARROWER than '..Said'. Prove '..Said' where nothing that the law and all that it calls make is longer than what came in: it says more and counts as full. Else prove '..UptoSaid'. A law counts once. -/
mutual
def uptoBulk {H : Type} : DataW H → Nat
  | .lit (.string bytes) => bytes.length + 1
  | .lit _ => 1
  | .nil => 1
  | .ptr d => uptoBulk d + 1
  | .slice elems spare => uptoBulkAll elems + uptoBulkAll spare + 1
  | .agg parts => uptoBulkAll parts + 1
  | .iface _ d => uptoBulk d + 1
  | .map entries => uptoBulkEntries entries + 1
  | .held _ => 1
def uptoBulkAll {H : Type} : List (DataW H) → Nat
  | [] => 0
  | d :: r => uptoBulk d + uptoBulkAll r
def uptoBulkEntries {H : Type} : List (Lit × DataW H) → Nat
  | [] => 0
  | x :: r => uptoBulkEntry x + uptoBulkEntries r
def uptoBulkEntry {H : Type} : Lit × DataW H → Nat
  | (.string bytes, d) => bytes.length + uptoBulk d + 1
  | (_, d) => uptoBulk d + 1
 end
def uptoSmall : (H : Type) → List (DataW H) → Bool := fun _ ds => decide (uptoBulkAll ds ≤ 1048576)
def OpenSpec.upto (s : _root_.Go.ChangeSpec) : _root_.Go.OpenSpec := { _root_.Go.OpenSpec.ofChange s with cond := some uptoSmall }

/-- 'laws.FnExactConstants', WHERE WHAT IT READS IS OF BULK AT MOST 1048576: true; the input reads as it did. -/
def fnExactConstantsUptoRow : OpenClaim := { program := "ytadjapdaepkfhaa", sum := "d73b3502b6f57768bbc4493f55f1c0333ddfecf21f1a2634e241db6c47ab8947", func := "loop.example/g01146/laws.FnExactConstants", spec := "fnExactConstants", apart := false, narrowed := true }
def FnExactConstantsUptoSaid : Prop := fnExactConstantsUptoRow.holds Try.pinned (OpenSpec.upto fnExactConstantsSpec)

/-- 'laws.FnExactFibonacciPoly', WHERE WHAT IT READS IS OF BULK AT MOST 1048576: true; the input reads as it did. -/
def fnExactFibonacciPolyUptoRow : OpenClaim := { program := "ytadjapdaepkfhaa", sum := "d73b3502b6f57768bbc4493f55f1c0333ddfecf21f1a2634e241db6c47ab8947", func := "loop.example/g01146/laws.FnExactFibonacciPoly", spec := "fnExactFibonacciPoly", apart := false, narrowed := true }
def FnExactFibonacciPolyUptoSaid : Prop := fnExactFibonacciPolyUptoRow.holds Try.pinned (OpenSpec.upto fnExactFibonacciPolySpec)

/-- 'laws.FnExactRowToggles', WHERE WHAT IT READS IS OF BULK AT MOST 1048576: true; the input reads as it did. -/
def fnExactRowTogglesUptoRow : OpenClaim := { program := "ytadjapdaepkfhaa", sum := "d73b3502b6f57768bbc4493f55f1c0333ddfecf21f1a2634e241db6c47ab8947", func := "loop.example/g01146/laws.FnExactRowToggles", spec := "fnExactRowToggles", unfollowed := true, recurses := true, apart := false, narrowed := true }
def FnExactRowTogglesUptoSaid : Prop := fnExactRowTogglesUptoRow.holds Try.pinned (OpenSpec.upto fnExactRowTogglesSpec)

/-- 'laws.FnExactDerivativeOf', WHERE WHAT IT READS IS OF BULK AT MOST 1048576: true; the input reads as it did. -/
def fnExactDerivativeOfUptoRow : OpenClaim := { program := "ytadjapdaepkfhaa", sum := "d73b3502b6f57768bbc4493f55f1c0333ddfecf21f1a2634e241db6c47ab8947", func := "loop.example/g01146/laws.FnExactDerivativeOf", spec := "fnExactDerivativeOf", unfollowed := true, recurses := true, apart := false, narrowed := true }
def FnExactDerivativeOfUptoSaid : Prop := fnExactDerivativeOfUptoRow.holds Try.pinned (OpenSpec.upto fnExactDerivativeOfSpec)

/-- 'laws.FnExactRowPeriod', WHERE WHAT IT READS IS OF BULK AT MOST 1048576: true; the input reads as it did. -/
def fnExactRowPeriodUptoRow : OpenClaim := { program := "ytadjapdaepkfhaa", sum := "d73b3502b6f57768bbc4493f55f1c0333ddfecf21f1a2634e241db6c47ab8947", func := "loop.example/g01146/laws.FnExactRowPeriod", spec := "fnExactRowPeriod", unfollowed := true, recurses := true, apart := false, narrowed := true }
def FnExactRowPeriodUptoSaid : Prop := fnExactRowPeriodUptoRow.holds Try.pinned (OpenSpec.upto fnExactRowPeriodSpec)

/-- 'laws.FnExactRowBehind', WHERE WHAT IT READS IS OF BULK AT MOST 1048576: true; the input reads as it did. -/
def fnExactRowBehindUptoRow : OpenClaim := { program := "ytadjapdaepkfhaa", sum := "d73b3502b6f57768bbc4493f55f1c0333ddfecf21f1a2634e241db6c47ab8947", func := "loop.example/g01146/laws.FnExactRowBehind", spec := "fnExactRowBehind", unfollowed := true, recurses := true, apart := false, narrowed := true }
def FnExactRowBehindUptoSaid : Prop := fnExactRowBehindUptoRow.holds Try.pinned (OpenSpec.upto fnExactRowBehindSpec)

/-- 'laws.FnExactChaseLeft', WHERE WHAT IT READS IS OF BULK AT MOST 1048576: true; the input reads as it did. -/
def fnExactChaseLeftUptoRow : OpenClaim := { program := "ytadjapdaepkfhaa", sum := "d73b3502b6f57768bbc4493f55f1c0333ddfecf21f1a2634e241db6c47ab8947", func := "loop.example/g01146/laws.FnExactChaseLeft", spec := "fnExactChaseLeft", apart := false, narrowed := true }
def FnExactChaseLeftUptoSaid : Prop := fnExactChaseLeftUptoRow.holds Try.pinned (OpenSpec.upto fnExactChaseLeftSpec)

/-- 'laws.FnExactChasePresses', WHERE WHAT IT READS IS OF BULK AT MOST 1048576: true; the input reads as it did. -/
def fnExactChasePressesUptoRow : OpenClaim := { program := "ytadjapdaepkfhaa", sum := "d73b3502b6f57768bbc4493f55f1c0333ddfecf21f1a2634e241db6c47ab8947", func := "loop.example/g01146/laws.FnExactChasePresses", spec := "fnExactChasePresses", apart := false, narrowed := true }
def FnExactChasePressesUptoSaid : Prop := fnExactChasePressesUptoRow.holds Try.pinned (OpenSpec.upto fnExactChasePressesSpec)

/-- 'laws.FnExactDegreeOf', WHERE WHAT IT READS IS OF BULK AT MOST 1048576: true; the input reads as it did. -/
def fnExactDegreeOfUptoRow : OpenClaim := { program := "ytadjapdaepkfhaa", sum := "d73b3502b6f57768bbc4493f55f1c0333ddfecf21f1a2634e241db6c47ab8947", func := "loop.example/g01146/laws.FnExactDegreeOf", spec := "fnExactDegreeOf", unfollowed := true, recurses := true, apart := false, narrowed := true }
def FnExactDegreeOfUptoSaid : Prop := fnExactDegreeOfUptoRow.holds Try.pinned (OpenSpec.upto fnExactDegreeOfSpec)

/-- 'laws.FnExactReversedPoly', WHERE WHAT IT READS IS OF BULK AT MOST 1048576: true; the input reads as it did. -/
def fnExactReversedPolyUptoRow : OpenClaim := { program := "ytadjapdaepkfhaa", sum := "d73b3502b6f57768bbc4493f55f1c0333ddfecf21f1a2634e241db6c47ab8947", func := "loop.example/g01146/laws.FnExactReversedPoly", spec := "fnExactReversedPoly", unfollowed := true, recurses := true, apart := false, narrowed := true }
def FnExactReversedPolyUptoSaid : Prop := fnExactReversedPolyUptoRow.holds Try.pinned (OpenSpec.upto fnExactReversedPolySpec)

/-- 'laws.FnExactDividePoly', WHERE WHAT IT READS IS OF BULK AT MOST 1048576: true; the input reads as it did. -/
def fnExactDividePolyUptoRow : OpenClaim := { program := "ytadjapdaepkfhaa", sum := "d73b3502b6f57768bbc4493f55f1c0333ddfecf21f1a2634e241db6c47ab8947", func := "loop.example/g01146/laws.FnExactDividePoly", spec := "fnExactDividePoly", unfollowed := true, recurses := true, apart := false, narrowed := true }
def FnExactDividePolyUptoSaid : Prop := fnExactDividePolyUptoRow.holds Try.pinned (OpenSpec.upto fnExactDividePolySpec)

/-- 'laws.FnExactQuietRows', WHERE WHAT IT READS IS OF BULK AT MOST 1048576: true; the input reads as it did. -/
def fnExactQuietRowsUptoRow : OpenClaim := { program := "ytadjapdaepkfhaa", sum := "d73b3502b6f57768bbc4493f55f1c0333ddfecf21f1a2634e241db6c47ab8947", func := "loop.example/g01146/laws.FnExactQuietRows", spec := "fnExactQuietRows", unfollowed := true, recurses := true, apart := false, narrowed := true }
def FnExactQuietRowsUptoSaid : Prop := fnExactQuietRowsUptoRow.holds Try.pinned (OpenSpec.upto fnExactQuietRowsSpec)

end Rows
end Go.Proofs.Ytadjapdaepkfhaa
