/-
  No cell of these rows narrows 'for every input' (looked for: loops, veiled, ifaces, maps, wideKeys, modest, calm, conditions, laid).
  DERIVED. THE GIVEN ROWS OF THIS SEAT. 3 by the template 'for every input the law returns true; each argument reads behind the call as it read before'; 0 by the template 'total and deterministic' (their statements: YtgnjndkbccakgaaTotals.lean).
  GIVEN WITH THE SEED: the statements are not yours to turn. If you find one false, say at which input.
  Laid BY PROGRAM, IN A SANDBOX (cutbox-rows.mjs): the forced cells as the released guide's own fill.sh prints them over the translation 7652b9f4f6655567… (all of the seat's roots in one cut). By AI agents, Wed Nov 11 2026. No macro, syntax, notation, axiom, sorry.
-/
import Derived.Test.YtgnjndkbccakgaaChecked
import GoSem.Claim
import GoSem.ClaimJoined
import GoSem.ClaimMapViews
import Derived.JoinedTies
import Derived.KernelRfl
namespace Go.Proofs.Ytgnjndkbccakgaa
/- THE CELL 'sum', in the pinned program and in every row, IS THE sha256 OF THE DUMP (.gsa) THAT YtgnjndkbccakgaaProg.lean LOADS. Nothing in Lean hashes anything: it is a label: what it is worth is what the hold of that sum in a sandbox is worth. -/
noncomputable def Try.pinned : Pinned := { name := "ytgnjndkbccakgaa", sum := "7652b9f4f66555679ac180a39985d001a063144c5ad78e444d452b0257eebfe9", checked := Try.checked }
namespace Rows
def none {H : Type} : Left H := { results := [], args := [] }

/-- 'laws.FnFirstRowsAreLinear': WHATEVER THE INPUT: true; the input reads as it did. -/
def fnFirstRowsAreLinearSpec : ChangeSpec := { name := "fnFirstRowsAreLinear", fn := fun _ => fun
  | [d1, d2] => { results := [.lit (.bool true)], args := [d1, d2] }
  | _ => none }
def fnFirstRowsAreLinearRow : OpenClaim := { program := "ytgnjndkbccakgaa", sum := "7652b9f4f66555679ac180a39985d001a063144c5ad78e444d452b0257eebfe9", func := "loop.example/g01146/laws.FnFirstRowsAreLinear", spec := "fnFirstRowsAreLinear", unfollowed := true, recurses := true, apart := false }
def FnFirstRowsAreLinearSaid : Prop := fnFirstRowsAreLinearRow.holds Try.pinned (OpenSpec.ofChange fnFirstRowsAreLinearSpec)

/-- ITS FALSE NEIGHBOUR: 'it returns false'. Refute it at one input. -/
def fnFirstRowsAreLinearWrong : ChangeSpec := { name := "fnFirstRowsAreLinear", fn := fun _ => fun
  | [d1, d2] => { results := [.lit (.bool false)], args := [d1, d2] }
  | _ => none }
def FnFirstRowsAreLinearWrongFalsely : Prop := fnFirstRowsAreLinearRow.holds Try.pinned (OpenSpec.ofChange fnFirstRowsAreLinearWrong)

/-- 'laws.FnChaseIsElimination': WHATEVER THE INPUT: true; the input reads as it did. -/
def fnChaseIsEliminationSpec : ChangeSpec := { name := "fnChaseIsElimination", fn := fun _ => fun
  | [d1, d2] => { results := [.lit (.bool true)], args := [d1, d2] }
  | _ => none }
def fnChaseIsEliminationRow : OpenClaim := { program := "ytgnjndkbccakgaa", sum := "7652b9f4f66555679ac180a39985d001a063144c5ad78e444d452b0257eebfe9", func := "loop.example/g01146/laws.FnChaseIsElimination", spec := "fnChaseIsElimination", unfollowed := true, recurses := true, apart := false }
def FnChaseIsEliminationSaid : Prop := fnChaseIsEliminationRow.holds Try.pinned (OpenSpec.ofChange fnChaseIsEliminationSpec)

/-- ITS FALSE NEIGHBOUR: 'it returns false'. Refute it at one input. -/
def fnChaseIsEliminationWrong : ChangeSpec := { name := "fnChaseIsElimination", fn := fun _ => fun
  | [d1, d2] => { results := [.lit (.bool false)], args := [d1, d2] }
  | _ => none }
def FnChaseIsEliminationWrongFalsely : Prop := fnChaseIsEliminationRow.holds Try.pinned (OpenSpec.ofChange fnChaseIsEliminationWrong)

/-- 'laws.FnRowsTellNullities': WHATEVER THE INPUT: true; the input reads as it did. -/
def fnRowsTellNullitiesSpec : ChangeSpec := { name := "fnRowsTellNullities", fn := fun _ => fun
  | [d1, d2] => { results := [.lit (.bool true)], args := [d1, d2] }
  | _ => none }
def fnRowsTellNullitiesRow : OpenClaim := { program := "ytgnjndkbccakgaa", sum := "7652b9f4f66555679ac180a39985d001a063144c5ad78e444d452b0257eebfe9", func := "loop.example/g01146/laws.FnRowsTellNullities", spec := "fnRowsTellNullities", unfollowed := true, recurses := true, apart := false }
def FnRowsTellNullitiesSaid : Prop := fnRowsTellNullitiesRow.holds Try.pinned (OpenSpec.ofChange fnRowsTellNullitiesSpec)

/-- ITS FALSE NEIGHBOUR: 'it returns false'. Refute it at one input. -/
def fnRowsTellNullitiesWrong : ChangeSpec := { name := "fnRowsTellNullities", fn := fun _ => fun
  | [d1, d2] => { results := [.lit (.bool false)], args := [d1, d2] }
  | _ => none }
def FnRowsTellNullitiesWrongFalsely : Prop := fnRowsTellNullitiesRow.holds Try.pinned (OpenSpec.ofChange fnRowsTellNullitiesWrong)

/- THE SECOND FORM. 'bulk': how many values and letters a reading holds, each counted each time it is reached (what is shared counts as often as it is met; a slice's spare places count too). A statement '..UptoSaid' is the law's where the arguments, and the package variables that the reading takes, are together of bulk at most 1048576: NARROWER than '..Said'. Prove '..Said' where nothing that the law and all that it calls make is longer than what came in: it says more and counts as full. Else prove '..UptoSaid'. A law counts once. -/
mutual
def uptoBulk {H : Type} : DataW H → Nat
  | .lit (.string bytes) => bytes.length + 1
  | .lit _ => 1
  | .nil => 1
  | .ptr d => uptoBulk d + 1
  | .slice elems spare => uptoBulkAll elems + uptoBulkAll spare + 1
  | .agg parts => uptoBulkAll parts + 1
  | .iface _ d => uptoBulk d + 1
  | .map entries => uptoBulkEntries entries + 1
  | .held _ => 1
def uptoBulkAll {H : Type} : List (DataW H) → Nat
  | [] => 0
  | d :: r => uptoBulk d + uptoBulkAll r
def uptoBulkEntries {H : Type} : List (Lit × DataW H) → Nat
  | [] => 0
  | x :: r => uptoBulkEntry x + uptoBulkEntries r
def uptoBulkEntry {H : Type} : Lit × DataW H → Nat
  | (.string bytes, d) => bytes.length + uptoBulk d + 1
  | (_, d) => uptoBulk d + 1
 end
def uptoSmall : (H : Type) → List (DataW H) → Bool := fun _ ds => decide (uptoBulkAll ds ≤ 1048576)
def OpenSpec.upto (s : _root_.Go.ChangeSpec) : _root_.Go.OpenSpec := { _root_.Go.OpenSpec.ofChange s with cond := some uptoSmall }

/-- 'laws.FnFirstRowsAreLinear', WHERE WHAT IT READS IS OF BULK AT MOST 1048576: true; the input reads as it did. -/
def fnFirstRowsAreLinearUptoRow : OpenClaim := { program := "ytgnjndkbccakgaa", sum := "7652b9f4f66555679ac180a39985d001a063144c5ad78e444d452b0257eebfe9", func := "loop.example/g01146/laws.FnFirstRowsAreLinear", spec := "fnFirstRowsAreLinear", unfollowed := true, recurses := true, apart := false, narrowed := true }
def FnFirstRowsAreLinearUptoSaid : Prop := fnFirstRowsAreLinearUptoRow.holds Try.pinned (OpenSpec.upto fnFirstRowsAreLinearSpec)

/-- 'laws.FnChaseIsElimination', WHERE WHAT IT READS IS OF BULK AT MOST 1048576: true; the input reads as it did. -/
def fnChaseIsEliminationUptoRow : OpenClaim := { program := "ytgnjndkbccakgaa", sum := "7652b9f4f66555679ac180a39985d001a063144c5ad78e444d452b0257eebfe9", func := "loop.example/g01146/laws.FnChaseIsElimination", spec := "fnChaseIsElimination", unfollowed := true, recurses := true, apart := false, narrowed := true }
def FnChaseIsEliminationUptoSaid : Prop := fnChaseIsEliminationUptoRow.holds Try.pinned (OpenSpec.upto fnChaseIsEliminationSpec)

/-- 'laws.FnRowsTellNullities', WHERE WHAT IT READS IS OF BULK AT MOST 1048576: true; the input reads as it did. -/
def fnRowsTellNullitiesUptoRow : OpenClaim := { program := "ytgnjndkbccakgaa", sum := "7652b9f4f66555679ac180a39985d001a063144c5ad78e444d452b0257eebfe9", func := "loop.example/g01146/laws.FnRowsTellNullities", spec := "fnRowsTellNullities", unfollowed := true, recurses := true, apart := false, narrowed := true }
def FnRowsTellNullitiesUptoSaid : Prop := fnRowsTellNullitiesUptoRow.holds Try.pinned (OpenSpec.upto fnRowsTellNullitiesSpec)

end Rows
end Go.Proofs.Ytgnjndkbccakgaa
