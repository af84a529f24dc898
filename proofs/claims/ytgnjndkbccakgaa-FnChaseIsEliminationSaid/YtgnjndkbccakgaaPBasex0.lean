-- WRITTEN BY xprint.py, a program of this session, which runs the kit's print over functions with given contracts
import Derived.Test.YtgnjndkbccakgaaProg
import Derived.Below
import Derived.Deep.Draws
import Derived.Deep.AppendLies
import Derived.Maps.AppendAt
import Derived.OwnWalk
import Derived.Laws.BytesArg
import Derived.Laws.MakeOwn
import Derived.Laws.OwnMore
import Derived.Deep.OwnRows
import Derived.Tactics
import Derived.Lib.ConvBytes
import Derived.Laws.Slices
import Derived.WalkKit
import Derived.KernelRfl
import Derived.RowKit3
import Derived.Deep.LoopGhost
import Derived.Deep.QuietTactic
import Derived.BigQuiet
import Derived.WideLaws
import Derived.Deep.DeepCutAuto
import Derived.Deep.CutBlock
import Derived.Deep.RegionHeld3
import Derived.Laws.Rows
import Derived.Lib.AppendStr
import Derived.ArgAppend
import Derived.Laws.IdiomCopy
import Derived.OrdersHeld
import Derived.Laws.BitsLemmas
import Derived.RowKit
import Derived.Lib.ItoaNum
import Derived.Shelf.Abstract
import Derived.Test.YtgnjndkbccakgaaGra
import Derived.Test.YtgnjndkbccakgaaShelf
import Derived.Test.YtgnjndkbccakgaaWWords
import Derived.Test.YtgnjndkbccakgaaWLast
import Derived.Test.YtgnjndkbccakgaaWTab
import Derived.Test.YtgnjndkbccakgaaWFour
import Derived.Test.YtgnjndkbccakgaaWQPut
import Derived.Test.YtgnjndkbccakgaaWApart
import Derived.Test.YtgnjndkbccakgaaWArr
import Derived.Test.YtgnjndkbccakgaaWZeros
import Derived.Test.YtgnjndkbccakgaaWFoot
import Derived.Test.YtgnjndkbccakgaaWKept
import Derived.Test.YtgnjndkbccakgaaWShare
import Derived.Test.YtgnjndkbccakgaaWN
import Derived.Test.YtgnjndkbccakgaaWFootNe
import Derived.Test.YtgnjndkbccakgaaWAt
import Derived.Test.YtgnjndkbccakgaaWEqStruct
import Derived.Test.YtgnjndkbccakgaaWRepsOne
import Derived.Test.YtgnjndkbccakgaaWInv
import Derived.Test.YtgnjndkbccakgaaWInvWords
import Derived.Test.YtgnjndkbccakgaaWGuard
import Derived.Test.YtgnjndkbccakgaaWNEv
import Derived.Test.YtgnjndkbccakgaaWMore
namespace Go.Proofs.Ytgnjndkbccakgaa.PBase
open Go.RowKit Go.Proofs.YtgnjndkbccakgaaW.PrintWords Go.Proofs.YtgnjndkbccakgaaW.PrintLast Go.Proofs.YtgnjndkbccakgaaW.PrintMore
attribute [local go_sem] max2_int min2_int max_two min_two max_three min_three max_four min_four   -- for this text's walks alone
set_option linter.unusedVariables false
set_option linter.unusedSimpArgs false



def errW : Option Int → Value
  | none => .nilIface
  | some c => .iface 0 (.int .i64 c)
theorem errW_none : errW none = .nilIface := rfl
theorem errW_some (c : Int) : errW (some c) = .iface 0 (.int .i64 c) := rfl

-- the values' own types

end Go.Proofs.Ytgnjndkbccakgaa.PBase
