/-
  No cell of these rows narrows 'for every input' (looked for: loops, veiled, ifaces, maps, wideKeys, modest, calm, conditions, laid).
  DERIVED. THE GIVEN ROWS OF THIS SEAT. 11 by the template 'for every input the law returns true; each argument reads behind the call as it read before'; 0 by the template 'total and deterministic' (their statements: YtgljddfglidjpaaTotals.lean).
  GIVEN WITH THE SEED: the statements are not yours to turn. If you find one false, say at which input.
  Laid BY PROGRAM, IN A SANDBOX (cutbox-rows.mjs): the forced cells as the released guide's own fill.sh prints them over the translation 70b3e30dd293f737… (all of the seat's roots in one cut). By AI agents, Wed Nov 11 2026. No macro, syntax, notation, axiom, sorry.
-/
import Derived.Test.YtgljddfglidjpaaChecked
import GoSem.Claim
import GoSem.ClaimJoined
import GoSem.ClaimMapViews
import Derived.JoinedTies
import Derived.KernelRfl
namespace Go.Proofs.Ytgljddfglidjpaa
/- THE CELL 'sum', in the pinned program and in every row, IS THE sha256 OF THE DUMP (.gsa) THAT YtgljddfglidjpaaProg.lean LOADS. Nothing in Lean hashes anything: it is a label: what it is worth is what the hold of that sum in a sandbox is worth. -/
noncomputable def Try.pinned : Pinned := { name := "ytgljddfglidjpaa", sum := "70b3e30dd293f737323ae10377a0aecc713c25bfb3e110af109f45fd87a09778", checked := Try.checked }
namespace Rows
def none {H : Type} : Left H := { results := [], args := [] }

/-- 'laws.FnExactTogglesOf': WHATEVER THE INPUT: true; the input reads as it did. -/
def fnExactTogglesOfSpec : ChangeSpec := { name := "fnExactTogglesOf", fn := fun _ => fun
  | [d1, d2] => { results := [.lit (.bool true)], args := [d1, d2] }
  | _ => none }
def fnExactTogglesOfRow : OpenClaim := { program := "ytgljddfglidjpaa", sum := "70b3e30dd293f737323ae10377a0aecc713c25bfb3e110af109f45fd87a09778", func := "loop.example/g01146/laws.FnExactTogglesOf", spec := "fnExactTogglesOf", unfollowed := true, recurses := true, apart := false }
def FnExactTogglesOfSaid : Prop := fnExactTogglesOfRow.holds Try.pinned (OpenSpec.ofChange fnExactTogglesOfSpec)

/-- ITS FALSE NEIGHBOUR: 'it returns false'. Refute it at one input. -/
def fnExactTogglesOfWrong : ChangeSpec := { name := "fnExactTogglesOf", fn := fun _ => fun
  | [d1, d2] => { results := [.lit (.bool false)], args := [d1, d2] }
  | _ => none }
def FnExactTogglesOfWrongFalsely : Prop := fnExactTogglesOfRow.holds Try.pinned (OpenSpec.ofChange fnExactTogglesOfWrong)

/-- 'laws.FnExactReducedSet': WHATEVER THE INPUT: true; the input reads as it did. -/
def fnExactReducedSetSpec : ChangeSpec := { name := "fnExactReducedSet", fn := fun _ => fun
  | [d1, d2] => { results := [.lit (.bool true)], args := [d1, d2] }
  | _ => none }
def fnExactReducedSetRow : OpenClaim := { program := "ytgljddfglidjpaa", sum := "70b3e30dd293f737323ae10377a0aecc713c25bfb3e110af109f45fd87a09778", func := "loop.example/g01146/laws.FnExactReducedSet", spec := "fnExactReducedSet", unfollowed := true, recurses := true, apart := false }
def FnExactReducedSetSaid : Prop := fnExactReducedSetRow.holds Try.pinned (OpenSpec.ofChange fnExactReducedSetSpec)

/-- ITS FALSE NEIGHBOUR: 'it returns false'. Refute it at one input. -/
def fnExactReducedSetWrong : ChangeSpec := { name := "fnExactReducedSet", fn := fun _ => fun
  | [d1, d2] => { results := [.lit (.bool false)], args := [d1, d2] }
  | _ => none }
def FnExactReducedSetWrongFalsely : Prop := fnExactReducedSetRow.holds Try.pinned (OpenSpec.ofChange fnExactReducedSetWrong)

/-- 'laws.FnExactPressWord': WHATEVER THE INPUT: true; the input reads as it did. -/
def fnExactPressWordSpec : ChangeSpec := { name := "fnExactPressWord", fn := fun _ => fun
  | [d1, d2, d3] => { results := [.lit (.bool true)], args := [d1, d2, d3] }
  | _ => none }
def fnExactPressWordRow : OpenClaim := { program := "ytgljddfglidjpaa", sum := "70b3e30dd293f737323ae10377a0aecc713c25bfb3e110af109f45fd87a09778", func := "loop.example/g01146/laws.FnExactPressWord", spec := "fnExactPressWord", unfollowed := true, recurses := true, apart := false }
def FnExactPressWordSaid : Prop := fnExactPressWordRow.holds Try.pinned (OpenSpec.ofChange fnExactPressWordSpec)

/-- ITS FALSE NEIGHBOUR: 'it returns false'. Refute it at one input. -/
def fnExactPressWordWrong : ChangeSpec := { name := "fnExactPressWord", fn := fun _ => fun
  | [d1, d2, d3] => { results := [.lit (.bool false)], args := [d1, d2, d3] }
  | _ => none }
def FnExactPressWordWrongFalsely : Prop := fnExactPressWordRow.holds Try.pinned (OpenSpec.ofChange fnExactPressWordWrong)

/-- 'laws.FnExactPressButton': WHATEVER THE INPUT: true; the input reads as it did. -/
def fnExactPressButtonSpec : ChangeSpec := { name := "fnExactPressButton", fn := fun _ => fun
  | [d1, d2, d3] => { results := [.lit (.bool true)], args := [d1, d2, d3] }
  | _ => none }
def fnExactPressButtonRow : OpenClaim := { program := "ytgljddfglidjpaa", sum := "70b3e30dd293f737323ae10377a0aecc713c25bfb3e110af109f45fd87a09778", func := "loop.example/g01146/laws.FnExactPressButton", spec := "fnExactPressButton", unfollowed := true, recurses := true, apart := false }
def FnExactPressButtonSaid : Prop := fnExactPressButtonRow.holds Try.pinned (OpenSpec.ofChange fnExactPressButtonSpec)

/-- ITS FALSE NEIGHBOUR: 'it returns false'. Refute it at one input. -/
def fnExactPressButtonWrong : ChangeSpec := { name := "fnExactPressButton", fn := fun _ => fun
  | [d1, d2, d3] => { results := [.lit (.bool false)], args := [d1, d2, d3] }
  | _ => none }
def FnExactPressButtonWrongFalsely : Prop := fnExactPressButtonRow.holds Try.pinned (OpenSpec.ofChange fnExactPressButtonWrong)

/-- 'laws.FnExactWithOwn': WHATEVER THE INPUT: true; the input reads as it did. -/
def fnExactWithOwnSpec : ChangeSpec := { name := "fnExactWithOwn", fn := fun _ => fun
  | [d1, d2] => { results := [.lit (.bool true)], args := [d1, d2] }
  | _ => none }
def fnExactWithOwnRow : OpenClaim := { program := "ytgljddfglidjpaa", sum := "70b3e30dd293f737323ae10377a0aecc713c25bfb3e110af109f45fd87a09778", func := "loop.example/g01146/laws.FnExactWithOwn", spec := "fnExactWithOwn", apart := false }
def FnExactWithOwnSaid : Prop := fnExactWithOwnRow.holds Try.pinned (OpenSpec.ofChange fnExactWithOwnSpec)

/-- ITS FALSE NEIGHBOUR: 'it returns false'. Refute it at one input. -/
def fnExactWithOwnWrong : ChangeSpec := { name := "fnExactWithOwn", fn := fun _ => fun
  | [d1, d2] => { results := [.lit (.bool false)], args := [d1, d2] }
  | _ => none }
def FnExactWithOwnWrongFalsely : Prop := fnExactWithOwnRow.holds Try.pinned (OpenSpec.ofChange fnExactWithOwnWrong)

/-- 'laws.FnExactIsQuiet': WHATEVER THE INPUT: true; the input reads as it did. -/
def fnExactIsQuietSpec : ChangeSpec := { name := "fnExactIsQuiet", fn := fun _ => fun
  | [d1, d2] => { results := [.lit (.bool true)], args := [d1, d2] }
  | _ => none }
def fnExactIsQuietRow : OpenClaim := { program := "ytgljddfglidjpaa", sum := "70b3e30dd293f737323ae10377a0aecc713c25bfb3e110af109f45fd87a09778", func := "loop.example/g01146/laws.FnExactIsQuiet", spec := "fnExactIsQuiet", unfollowed := true, recurses := true, apart := false }
def FnExactIsQuietSaid : Prop := fnExactIsQuietRow.holds Try.pinned (OpenSpec.ofChange fnExactIsQuietSpec)

/-- ITS FALSE NEIGHBOUR: 'it returns false'. Refute it at one input. -/
def fnExactIsQuietWrong : ChangeSpec := { name := "fnExactIsQuiet", fn := fun _ => fun
  | [d1, d2] => { results := [.lit (.bool false)], args := [d1, d2] }
  | _ => none }
def FnExactIsQuietWrongFalsely : Prop := fnExactIsQuietRow.holds Try.pinned (OpenSpec.ofChange fnExactIsQuietWrong)

/-- 'laws.FnExactPressAll': WHATEVER THE INPUT: true; the input reads as it did. -/
def fnExactPressAllSpec : ChangeSpec := { name := "fnExactPressAll", fn := fun _ => fun
  | [d1, d2, d3] => { results := [.lit (.bool true)], args := [d1, d2, d3] }
  | _ => none }
def fnExactPressAllRow : OpenClaim := { program := "ytgljddfglidjpaa", sum := "70b3e30dd293f737323ae10377a0aecc713c25bfb3e110af109f45fd87a09778", func := "loop.example/g01146/laws.FnExactPressAll", spec := "fnExactPressAll", unfollowed := true, recurses := true, apart := false }
def FnExactPressAllSaid : Prop := fnExactPressAllRow.holds Try.pinned (OpenSpec.ofChange fnExactPressAllSpec)

/-- ITS FALSE NEIGHBOUR: 'it returns false'. Refute it at one input. -/
def fnExactPressAllWrong : ChangeSpec := { name := "fnExactPressAll", fn := fun _ => fun
  | [d1, d2, d3] => { results := [.lit (.bool false)], args := [d1, d2, d3] }
  | _ => none }
def FnExactPressAllWrongFalsely : Prop := fnExactPressAllRow.holds Try.pinned (OpenSpec.ofChange fnExactPressAllWrong)

/-- 'laws.FnExactJoinGraphs': WHATEVER THE INPUT: true; the input reads as it did. -/
def fnExactJoinGraphsSpec : ChangeSpec := { name := "fnExactJoinGraphs", fn := fun _ => fun
  | [d1, d2] => { results := [.lit (.bool true)], args := [d1, d2] }
  | _ => none }
def fnExactJoinGraphsRow : OpenClaim := { program := "ytgljddfglidjpaa", sum := "70b3e30dd293f737323ae10377a0aecc713c25bfb3e110af109f45fd87a09778", func := "loop.example/g01146/laws.FnExactJoinGraphs", spec := "fnExactJoinGraphs", apart := false }
def FnExactJoinGraphsSaid : Prop := fnExactJoinGraphsRow.holds Try.pinned (OpenSpec.ofChange fnExactJoinGraphsSpec)

/-- ITS FALSE NEIGHBOUR: 'it returns false'. Refute it at one input. -/
def fnExactJoinGraphsWrong : ChangeSpec := { name := "fnExactJoinGraphs", fn := fun _ => fun
  | [d1, d2] => { results := [.lit (.bool false)], args := [d1, d2] }
  | _ => none }
def FnExactJoinGraphsWrongFalsely : Prop := fnExactJoinGraphsRow.holds Try.pinned (OpenSpec.ofChange fnExactJoinGraphsWrong)

/-- 'laws.FnExactEffectOf': WHATEVER THE INPUT: true; the input reads as it did. -/
def fnExactEffectOfSpec : ChangeSpec := { name := "fnExactEffectOf", fn := fun _ => fun
  | [d1, d2] => { results := [.lit (.bool true)], args := [d1, d2] }
  | _ => none }
def fnExactEffectOfRow : OpenClaim := { program := "ytgljddfglidjpaa", sum := "70b3e30dd293f737323ae10377a0aecc713c25bfb3e110af109f45fd87a09778", func := "loop.example/g01146/laws.FnExactEffectOf", spec := "fnExactEffectOf", unfollowed := true, recurses := true, apart := false }
def FnExactEffectOfSaid : Prop := fnExactEffectOfRow.holds Try.pinned (OpenSpec.ofChange fnExactEffectOfSpec)

/-- ITS FALSE NEIGHBOUR: 'it returns false'. Refute it at one input. -/
def fnExactEffectOfWrong : ChangeSpec := { name := "fnExactEffectOf", fn := fun _ => fun
  | [d1, d2] => { results := [.lit (.bool false)], args := [d1, d2] }
  | _ => none }
def FnExactEffectOfWrongFalsely : Prop := fnExactEffectOfRow.holds Try.pinned (OpenSpec.ofChange fnExactEffectOfWrong)

/-- 'laws.FnExactDegreesOf': WHATEVER THE INPUT: true; the input reads as it did. -/
def fnExactDegreesOfSpec : ChangeSpec := { name := "fnExactDegreesOf", fn := fun _ => fun
  | [d] => { results := [.lit (.bool true)], args := [d] }
  | _ => none }
def fnExactDegreesOfRow : OpenClaim := { program := "ytgljddfglidjpaa", sum := "70b3e30dd293f737323ae10377a0aecc713c25bfb3e110af109f45fd87a09778", func := "loop.example/g01146/laws.FnExactDegreesOf", spec := "fnExactDegreesOf", apart := false }
def FnExactDegreesOfSaid : Prop := fnExactDegreesOfRow.holds Try.pinned (OpenSpec.ofChange fnExactDegreesOfSpec)

/-- ITS FALSE NEIGHBOUR: 'it returns false'. Refute it at one input. -/
def fnExactDegreesOfWrong : ChangeSpec := { name := "fnExactDegreesOf", fn := fun _ => fun
  | [d] => { results := [.lit (.bool false)], args := [d] }
  | _ => none }
def FnExactDegreesOfWrongFalsely : Prop := fnExactDegreesOfRow.holds Try.pinned (OpenSpec.ofChange fnExactDegreesOfWrong)

/-- 'laws.FnExactRenameGraph': WHATEVER THE INPUT: true; the input reads as it did. -/
def fnExactRenameGraphSpec : ChangeSpec := { name := "fnExactRenameGraph", fn := fun _ => fun
  | [d1, d2] => { results := [.lit (.bool true)], args := [d1, d2] }
  | _ => none }
def fnExactRenameGraphRow : OpenClaim := { program := "ytgljddfglidjpaa", sum := "70b3e30dd293f737323ae10377a0aecc713c25bfb3e110af109f45fd87a09778", func := "loop.example/g01146/laws.FnExactRenameGraph", spec := "fnExactRenameGraph", unfollowed := true, recurses := true, apart := false }
def FnExactRenameGraphSaid : Prop := fnExactRenameGraphRow.holds Try.pinned (OpenSpec.ofChange fnExactRenameGraphSpec)

/-- ITS FALSE NEIGHBOUR: 'it returns false'. Refute it at one input. -/
def fnExactRenameGraphWrong : ChangeSpec := { name := "fnExactRenameGraph", fn := fun _ => fun
  | [d1, d2] => { results := [.lit (.bool false)], args := [d1, d2] }
  | _ => none }
def FnExactRenameGraphWrongFalsely : Prop := fnExactRenameGraphRow.holds Try.pinned (OpenSpec.ofChange fnExactRenameGraphWrong)

/- THE SECOND FORM. 'bulk': how many values and letters a reading holds, each counted each time it is reached (what is shared counts as often as it is met; a slice's spare places count too). A statement '..UptoSaid' is the law's where the arguments, and the package variables that the reading takes, are together of bulk at most 1048576: NARROWER than '..Said'. Prove '..Said' where nothing that the law and all that it calls make is longer than what came in: it says more and counts as full. Else prove '..UptoSaid'. A law counts once. -/
mutual
def uptoBulk {H : Type} : DataW H → Nat
  | .lit (.string bytes) => bytes.length + 1
  | .lit _ => 1
  | .nil => 1
  | .ptr d => uptoBulk d + 1
  | .slice elems spare => uptoBulkAll elems + uptoBulkAll spare + 1
  | .agg parts => uptoBulkAll parts + 1
  | .iface _ d => uptoBulk d + 1
  | .map entries => uptoBulkEntries entries + 1
  | .held _ => 1
def uptoBulkAll {H : Type} : List (DataW H) → Nat
  | [] => 0
  | d :: r => uptoBulk d + uptoBulkAll r
def uptoBulkEntries {H : Type} : List (Lit × DataW H) → Nat
  | [] => 0
  | x :: r => uptoBulkEntry x + uptoBulkEntries r
def uptoBulkEntry {H : Type} : Lit × DataW H → Nat
  | (.string bytes, d) => bytes.length + uptoBulk d + 1
  | (_, d) => uptoBulk d + 1
 end
def uptoSmall : (H : Type) → List (DataW H) → Bool := fun _ ds => decide (uptoBulkAll ds ≤ 1048576)
def OpenSpec.upto (s : _root_.Go.ChangeSpec) : _root_.Go.OpenSpec := { _root_.Go.OpenSpec.ofChange s with cond := some uptoSmall }

/-- 'laws.FnExactTogglesOf', WHERE WHAT IT READS IS OF BULK AT MOST 1048576: true; the input reads as it did. -/
def fnExactTogglesOfUptoRow : OpenClaim := { program := "ytgljddfglidjpaa", sum := "70b3e30dd293f737323ae10377a0aecc713c25bfb3e110af109f45fd87a09778", func := "loop.example/g01146/laws.FnExactTogglesOf", spec := "fnExactTogglesOf", unfollowed := true, recurses := true, apart := false, narrowed := true }
def FnExactTogglesOfUptoSaid : Prop := fnExactTogglesOfUptoRow.holds Try.pinned (OpenSpec.upto fnExactTogglesOfSpec)

/-- 'laws.FnExactReducedSet', WHERE WHAT IT READS IS OF BULK AT MOST 1048576: true; the input reads as it did. -/
def fnExactReducedSetUptoRow : OpenClaim := { program := "ytgljddfglidjpaa", sum := "70b3e30dd293f737323ae10377a0aecc713c25bfb3e110af109f45fd87a09778", func := "loop.example/g01146/laws.FnExactReducedSet", spec := "fnExactReducedSet", unfollowed := true, recurses := true, apart := false, narrowed := true }
def FnExactReducedSetUptoSaid : Prop := fnExactReducedSetUptoRow.holds Try.pinned (OpenSpec.upto fnExactReducedSetSpec)

/-- 'laws.FnExactPressWord', WHERE WHAT IT READS IS OF BULK AT MOST 1048576: true; the input reads as it did. -/
def fnExactPressWordUptoRow : OpenClaim := { program := "ytgljddfglidjpaa", sum := "70b3e30dd293f737323ae10377a0aecc713c25bfb3e110af109f45fd87a09778", func := "loop.example/g01146/laws.FnExactPressWord", spec := "fnExactPressWord", unfollowed := true, recurses := true, apart := false, narrowed := true }
def FnExactPressWordUptoSaid : Prop := fnExactPressWordUptoRow.holds Try.pinned (OpenSpec.upto fnExactPressWordSpec)

/-- 'laws.FnExactPressButton', WHERE WHAT IT READS IS OF BULK AT MOST 1048576: true; the input reads as it did. -/
def fnExactPressButtonUptoRow : OpenClaim := { program := "ytgljddfglidjpaa", sum := "70b3e30dd293f737323ae10377a0aecc713c25bfb3e110af109f45fd87a09778", func := "loop.example/g01146/laws.FnExactPressButton", spec := "fnExactPressButton", unfollowed := true, recurses := true, apart := false, narrowed := true }
def FnExactPressButtonUptoSaid : Prop := fnExactPressButtonUptoRow.holds Try.pinned (OpenSpec.upto fnExactPressButtonSpec)

/-- 'laws.FnExactWithOwn', WHERE WHAT IT READS IS OF BULK AT MOST 1048576: true; the input reads as it did. -/
def fnExactWithOwnUptoRow : OpenClaim := { program := "ytgljddfglidjpaa", sum := "70b3e30dd293f737323ae10377a0aecc713c25bfb3e110af109f45fd87a09778", func := "loop.example/g01146/laws.FnExactWithOwn", spec := "fnExactWithOwn", apart := false, narrowed := true }
def FnExactWithOwnUptoSaid : Prop := fnExactWithOwnUptoRow.holds Try.pinned (OpenSpec.upto fnExactWithOwnSpec)

/-- 'laws.FnExactIsQuiet', WHERE WHAT IT READS IS OF BULK AT MOST 1048576: true; the input reads as it did. -/
def fnExactIsQuietUptoRow : OpenClaim := { program := "ytgljddfglidjpaa", sum := "70b3e30dd293f737323ae10377a0aecc713c25bfb3e110af109f45fd87a09778", func := "loop.example/g01146/laws.FnExactIsQuiet", spec := "fnExactIsQuiet", unfollowed := true, recurses := true, apart := false, narrowed := true }
def FnExactIsQuietUptoSaid : Prop := fnExactIsQuietUptoRow.holds Try.pinned (OpenSpec.upto fnExactIsQuietSpec)

/-- 'laws.FnExactPressAll', WHERE WHAT IT READS IS OF BULK AT MOST 1048576: true; the input reads as it did. -/
def fnExactPressAllUptoRow : OpenClaim := { program := "ytgljddfglidjpaa", sum := "70b3e30dd293f737323ae10377a0aecc713c25bfb3e110af109f45fd87a09778", func := "loop.example/g01146/laws.FnExactPressAll", spec := "fnExactPressAll", unfollowed := true, recurses := true, apart := false, narrowed := true }
def FnExactPressAllUptoSaid : Prop := fnExactPressAllUptoRow.holds Try.pinned (OpenSpec.upto fnExactPressAllSpec)

/-- 'laws.FnExactJoinGraphs', WHERE WHAT IT READS IS OF BULK AT MOST 1048576: true; the input reads as it did. -/
def fnExactJoinGraphsUptoRow : OpenClaim := { program := "ytgljddfglidjpaa", sum := "70b3e30dd293f737323ae10377a0aecc713c25bfb3e110af109f45fd87a09778", func := "loop.example/g01146/laws.FnExactJoinGraphs", spec := "fnExactJoinGraphs", apart := false, narrowed := true }
def FnExactJoinGraphsUptoSaid : Prop := fnExactJoinGraphsUptoRow.holds Try.pinned (OpenSpec.upto fnExactJoinGraphsSpec)

/-- 'laws.FnExactEffectOf', WHERE WHAT IT READS IS OF BULK AT MOST 1048576: true; the input reads as it did. -/
def fnExactEffectOfUptoRow : OpenClaim := { program := "ytgljddfglidjpaa", sum := "70b3e30dd293f737323ae10377a0aecc713c25bfb3e110af109f45fd87a09778", func := "loop.example/g01146/laws.FnExactEffectOf", spec := "fnExactEffectOf", unfollowed := true, recurses := true, apart := false, narrowed := true }
def FnExactEffectOfUptoSaid : Prop := fnExactEffectOfUptoRow.holds Try.pinned (OpenSpec.upto fnExactEffectOfSpec)

/-- 'laws.FnExactDegreesOf', WHERE WHAT IT READS IS OF BULK AT MOST 1048576: true; the input reads as it did. -/
def fnExactDegreesOfUptoRow : OpenClaim := { program := "ytgljddfglidjpaa", sum := "70b3e30dd293f737323ae10377a0aecc713c25bfb3e110af109f45fd87a09778", func := "loop.example/g01146/laws.FnExactDegreesOf", spec := "fnExactDegreesOf", apart := false, narrowed := true }
def FnExactDegreesOfUptoSaid : Prop := fnExactDegreesOfUptoRow.holds Try.pinned (OpenSpec.upto fnExactDegreesOfSpec)

/-- 'laws.FnExactRenameGraph', WHERE WHAT IT READS IS OF BULK AT MOST 1048576: true; the input reads as it did. -/
def fnExactRenameGraphUptoRow : OpenClaim := { program := "ytgljddfglidjpaa", sum := "70b3e30dd293f737323ae10377a0aecc713c25bfb3e110af109f45fd87a09778", func := "loop.example/g01146/laws.FnExactRenameGraph", spec := "fnExactRenameGraph", unfollowed := true, recurses := true, apart := false, narrowed := true }
def FnExactRenameGraphUptoSaid : Prop := fnExactRenameGraphUptoRow.holds Try.pinned (OpenSpec.upto fnExactRenameGraphSpec)

end Rows
end Go.Proofs.Ytgljddfglidjpaa
