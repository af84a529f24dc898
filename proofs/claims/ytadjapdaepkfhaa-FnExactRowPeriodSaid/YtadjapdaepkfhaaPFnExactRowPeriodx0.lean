-- WRITTEN BY xprint.py, a program of this session, which runs the kit's print over functions with given contracts
import Derived.Test.YtadjapdaepkfhaaProg
import Derived.Below
import Derived.Deep.Draws
import Derived.Deep.AppendLies
import Derived.Maps.AppendAt
import Derived.OwnWalk
import Derived.Laws.BytesArg
import Derived.Laws.MakeOwn
import Derived.Laws.OwnMore
import Derived.Deep.OwnRows
import Derived.Tactics
import Derived.Lib.ConvBytes
import Derived.Laws.Slices
import Derived.WalkKit
import Derived.KernelRfl
import Derived.RowKit3
import Derived.Deep.LoopGhost
import Derived.Deep.QuietTactic
import Derived.BigQuiet
import Derived.WideLaws
import Derived.Deep.DeepCutAuto
import Derived.Deep.CutBlock
import Derived.Deep.RegionHeld3
import Derived.Laws.Rows
import Derived.Lib.AppendStr
import Derived.ArgAppend
import Derived.Laws.IdiomCopy
import Derived.OrdersHeld
import Derived.Laws.BitsLemmas
import Derived.RowKit
import Derived.Test.YtadjapdaepkfhaaGra
import Derived.Shelf.Abstract
import Derived.Test.YtadjapdaepkfhaaGra
import Derived.Test.YtadjapdaepkfhaaShelf
import Derived.Lib.ItoaNum
import Derived.Test.YtadjapdaepkfhaaGra
import Derived.Shelf.Abstract
import Derived.Test.YtadjapdaepkfhaaGra
import Derived.Test.YtadjapdaepkfhaaGra
import Derived.Test.YtadjapdaepkfhaaGra
import Derived.Test.YtadjapdaepkfhaaRow
import Derived.Shelf.Abstract
import Derived.Test.YtadjapdaepkfhaaGra
import Derived.Test.YtadjapdaepkfhaaRow
import Derived.Test.YtadjapdaepkfhaaGra
import Derived.Test.YtadjapdaepkfhaaPer
import Derived.Test.YtadjapdaepkfhaaWWords
import Derived.Test.YtadjapdaepkfhaaWLast
import Derived.Test.YtadjapdaepkfhaaWTab
import Derived.Test.YtadjapdaepkfhaaWFour
import Derived.Test.YtadjapdaepkfhaaWQPut
import Derived.Test.YtadjapdaepkfhaaWApart
import Derived.Test.YtadjapdaepkfhaaWArr
import Derived.Test.YtadjapdaepkfhaaWZeros
import Derived.Test.YtadjapdaepkfhaaWFoot
import Derived.Test.YtadjapdaepkfhaaWKept
import Derived.Test.YtadjapdaepkfhaaWShare
import Derived.Test.YtadjapdaepkfhaaWN
import Derived.Test.YtadjapdaepkfhaaWFootNe
import Derived.Test.YtadjapdaepkfhaaWAt
import Derived.Test.YtadjapdaepkfhaaWEqStruct
import Derived.Test.YtadjapdaepkfhaaWRepsOne
import Derived.Test.YtadjapdaepkfhaaWInv
import Derived.Test.YtadjapdaepkfhaaWInvWords
import Derived.Test.YtadjapdaepkfhaaWGuard
import Derived.Test.YtadjapdaepkfhaaWNEv
import Derived.Test.YtadjapdaepkfhaaWMore
namespace Go.Proofs.Ytadjapdaepkfhaa.PFnExactRowPeriod
open Go.RowKit Go.Proofs.YtadjapdaepkfhaaW.PrintWords Go.Proofs.YtadjapdaepkfhaaW.PrintLast Go.Proofs.YtadjapdaepkfhaaW.PrintMore
attribute [local go_sem] max2_int min2_int max_two min_two max_three min_three max_four min_four   -- for this text's walks alone
set_option linter.unusedVariables false
set_option linter.unusedSimpArgs false



def errW : Option Int → Value
  | none => .nilIface
  | some c => .iface 0 (.int .i64 c)
theorem errW_none : errW none = .nilIface := rfl
theorem errW_some (c : Int) : errW (some c) = .iface 0 (.int .i64 c) := rfl

-- the values' own types

end Go.Proofs.Ytadjapdaepkfhaa.PFnExactRowPeriod
