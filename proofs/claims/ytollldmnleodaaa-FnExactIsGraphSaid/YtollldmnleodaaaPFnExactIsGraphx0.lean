-- WRITTEN BY xprint.py, a program of this session, which runs the kit's print over functions with given contracts
import Derived.Test.YtollldmnleodaaaProg
import Derived.Below
import Derived.Deep.Draws
import Derived.Deep.AppendLies
import Derived.Maps.AppendAt
import Derived.OwnWalk
import Derived.Laws.BytesArg
import Derived.Laws.MakeOwn
import Derived.Laws.OwnMore
import Derived.Deep.OwnRows
import Derived.Tactics
import Derived.Lib.ConvBytes
import Derived.Laws.Slices
import Derived.WalkKit
import Derived.KernelRfl
import Derived.RowKit3
import Derived.Deep.LoopGhost
import Derived.Deep.QuietTactic
import Derived.BigQuiet
import Derived.WideLaws
import Derived.Deep.DeepCutAuto
import Derived.Deep.CutBlock
import Derived.Deep.RegionHeld3
import Derived.Laws.Rows
import Derived.Lib.AppendStr
import Derived.ArgAppend
import Derived.Laws.IdiomCopy
import Derived.OrdersHeld
import Derived.Laws.BitsLemmas
import Derived.RowKit
import Derived.Test.YtollldmnleodaaaGra
import Derived.Test.YtollldmnleodaaaGra
import Derived.Test.YtollldmnleodaaaWWords
import Derived.Test.YtollldmnleodaaaWLast
import Derived.Test.YtollldmnleodaaaWTab
import Derived.Test.YtollldmnleodaaaWFour
import Derived.Test.YtollldmnleodaaaWQPut
import Derived.Test.YtollldmnleodaaaWApart
import Derived.Test.YtollldmnleodaaaWArr
import Derived.Test.YtollldmnleodaaaWZeros
import Derived.Test.YtollldmnleodaaaWFoot
import Derived.Test.YtollldmnleodaaaWKept
import Derived.Test.YtollldmnleodaaaWShare
import Derived.Test.YtollldmnleodaaaWN
import Derived.Test.YtollldmnleodaaaWFootNe
import Derived.Test.YtollldmnleodaaaWAt
import Derived.Test.YtollldmnleodaaaWEqStruct
import Derived.Test.YtollldmnleodaaaWRepsOne
import Derived.Test.YtollldmnleodaaaWInv
import Derived.Test.YtollldmnleodaaaWInvWords
import Derived.Test.YtollldmnleodaaaWGuard
import Derived.Test.YtollldmnleodaaaWNEv
import Derived.Test.YtollldmnleodaaaWMore
namespace Go.Proofs.Ytollldmnleodaaa.PFnExactIsGraph
open Go.RowKit Go.Proofs.YtollldmnleodaaaW.PrintWords Go.Proofs.YtollldmnleodaaaW.PrintLast Go.Proofs.YtollldmnleodaaaW.PrintMore
attribute [local go_sem] max2_int min2_int max_two min_two max_three min_three max_four min_four   -- for this text's walks alone
set_option linter.unusedVariables false
set_option linter.unusedSimpArgs false



def errW : Option Int → Value
  | none => .nilIface
  | some c => .iface 0 (.int .i64 c)
theorem errW_none : errW none = .nilIface := rfl
theorem errW_some (c : Int) : errW (some c) = .iface 0 (.int .i64 c) := rfl

theorem info3 : (Try.prog.info? 3).map (fun i => (i.zero, i.size, i.bytes)) = some (some (.int .i64 0), 1, 8) := by kernel_rfl
-- the values' own types

end Go.Proofs.Ytollldmnleodaaa.PFnExactIsGraph
