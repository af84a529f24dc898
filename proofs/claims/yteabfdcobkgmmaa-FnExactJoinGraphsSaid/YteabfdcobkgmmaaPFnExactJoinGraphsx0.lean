-- WRITTEN BY xprint.py, a program of this session, which runs the kit's print over functions with given contracts
import Derived.Test.YteabfdcobkgmmaaProg
import Derived.Below
import Derived.Deep.Draws
import Derived.Deep.AppendLies
import Derived.Maps.AppendAt
import Derived.OwnWalk
import Derived.Laws.BytesArg
import Derived.Laws.MakeOwn
import Derived.Laws.OwnMore
import Derived.Deep.OwnRows
import Derived.Tactics
import Derived.Lib.ConvBytes
import Derived.Laws.Slices
import Derived.WalkKit
import Derived.KernelRfl
import Derived.RowKit3
import Derived.Deep.LoopGhost
import Derived.Deep.QuietTactic
import Derived.BigQuiet
import Derived.WideLaws
import Derived.Deep.DeepCutAuto
import Derived.Deep.CutBlock
import Derived.Deep.RegionHeld3
import Derived.Laws.Rows
import Derived.Lib.AppendStr
import Derived.ArgAppend
import Derived.Laws.IdiomCopy
import Derived.OrdersHeld
import Derived.Laws.BitsLemmas
import Derived.RowKit
import Derived.DataReads
import Derived.Test.YteabfdcobkgmmaaGra
import Derived.Test.YteabfdcobkgmmaaShelf
import Derived.Test.YteabfdcobkgmmaaWWords
import Derived.Test.YteabfdcobkgmmaaWLast
import Derived.Test.YteabfdcobkgmmaaWTab
import Derived.Test.YteabfdcobkgmmaaWFour
import Derived.Test.YteabfdcobkgmmaaWQPut
import Derived.Test.YteabfdcobkgmmaaWApart
import Derived.Test.YteabfdcobkgmmaaWArr
import Derived.Test.YteabfdcobkgmmaaWZeros
import Derived.Test.YteabfdcobkgmmaaWFoot
import Derived.Test.YteabfdcobkgmmaaWKept
import Derived.Test.YteabfdcobkgmmaaWShare
import Derived.Test.YteabfdcobkgmmaaWN
import Derived.Test.YteabfdcobkgmmaaWFootNe
import Derived.Test.YteabfdcobkgmmaaWAt
import Derived.Test.YteabfdcobkgmmaaWEqStruct
import Derived.Test.YteabfdcobkgmmaaWRepsOne
import Derived.Test.YteabfdcobkgmmaaWInv
import Derived.Test.YteabfdcobkgmmaaWInvWords
import Derived.Test.YteabfdcobkgmmaaWGuard
import Derived.Test.YteabfdcobkgmmaaWNEv
import Derived.Test.YteabfdcobkgmmaaWMore
namespace Go.Proofs.Yteabfdcobkgmmaa.PFnExactJoinGraphs
open Go.RowKit Go.Proofs.YteabfdcobkgmmaaW.PrintWords Go.Proofs.YteabfdcobkgmmaaW.PrintLast Go.Proofs.YteabfdcobkgmmaaW.PrintMore
attribute [local go_sem] max2_int min2_int max_two min_two max_three min_three max_four min_four   -- for this text's walks alone
set_option linter.unusedVariables false
set_option linter.unusedSimpArgs false



def errW : Option Int → Value
  | none => .nilIface
  | some c => .iface 0 (.int .i64 c)
theorem errW_none : errW none = .nilIface := rfl
theorem errW_some (c : Int) : errW (some c) = .iface 0 (.int .i64 c) := rfl

theorem info3 : (Try.prog.info? 3).map (fun i => (i.zero, i.size, i.bytes)) = some (some (.int .i64 0), 1, 8) := by kernel_rfl
-- the values' own types

end Go.Proofs.Yteabfdcobkgmmaa.PFnExactJoinGraphs
